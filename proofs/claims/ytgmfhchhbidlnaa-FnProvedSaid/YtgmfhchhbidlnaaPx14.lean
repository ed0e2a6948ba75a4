import Derived.Test.YtgmfhchhbidlnaaStr
import Derived.Test.YtgmfhchhbidlnaaPx0
import Derived.Test.YtgmfhchhbidlnaaPx10
import Derived.Test.YtgmfhchhbidlnaaPx13
namespace Go.Proofs.Ytgmfhchhbidlnaa.P
open Go.RowKit Go.Proofs.YtgmfhchhbidlnaaW.PrintWords Go.Proofs.YtgmfhchhbidlnaaW.PrintLast Go.Proofs.YtgmfhchhbidlnaaW.PrintMore
attribute [local go_sem] max2_int min2_int max_two min_two max_three min_three max_four min_four
set_option linter.unusedVariables false
set_option maxHeartbeats 8000000
set_option maxRecDepth 100000
set_option linter.unusedSimpArgs false
def impl_reaches.f (a0 : ByteArray) (a1 : ByteArray) (aC : Int) (aB : Int) (aA : List (S52)) : Option (Bool) := if aB = 0 then (if (wrap64 (aB + (wrap64 ((aA.length : Int) - 1)))) = (wrap64 (aC - 1)) then (some true) else (if a1.toList = ([] : List UInt8) then (some false) else (if 0 ≤ (wrap64 ((aA.length : Int) - 1)) then (if (wrap64 ((aA.length : Int) - 1)) < (aA.length : Int) then (some (!(Op.bytesLess (((rd_T52 aA (wrap64 ((aA.length : Int) - 1))).f0.f0).toList) a1.toList))) else (none)) else (none)))) else (if 0 < (aA.length : Int) then (if (Op.bytesLess (((rd_T52 aA 0).f0.f0).toList) a0.toList) = true then (if (wrap64 (aB + (wrap64 ((aA.length : Int) - 1)))) = (wrap64 (aC - 1)) then (some true) else (if a1.toList = ([] : List UInt8) then (some false) else (if 0 ≤ (wrap64 ((aA.length : Int) - 1)) then (if (wrap64 ((aA.length : Int) - 1)) < (aA.length : Int) then (some (!(Op.bytesLess (((rd_T52 aA (wrap64 ((aA.length : Int) - 1))).f0.f0).toList) a1.toList))) else (none)) else (none)))) else (some false)) else (none))
theorem impl_reaches.calls (a0 : ByteArray) (a1 : ByteArray) (aI : Int) (aG : Int) (aP : Option Addr) (aM : Nat) (aA : List (S52)) (r : Bool) (w : World) (aW : Kd.C k52 w aP aA.length aA) (aX : aA.length ≤ aM) (h : impl_reaches.f a0 a1 aI aG aA = some r) :
 Calls Try.prog 24 #[.string a0, .string a1, .agg #[.int .i64 aI, .int .i64 aG, .slice aP aA.length aM]] w fun e w' => e = .returned (.bool r) ∧ Below w.heap.size w w' := by
 have eL := Try.underlying27
 have aL := Aside0.mk aW
 have eG := Aside0.mk aX
 clear aW aX
 have HB := q_ (Below.refl w.heap.size w)
 have H := h
 clear h
 unfold impl_reaches.f at H
 by_cases c4 : aG = 0
 ·
  rw [if_pos c4] at H
  have dV := beq_iff_eq.mpr c4
  have dU := bne_eq_false_iff_eq.mpr c4
  clear c4
  by_cases c5 : (wrap64 (aG + (wrap64 ((aA.length : Int) - 1)))) = (wrap64 (aI - 1))
  ·
   rw [if_pos c5] at H
   have bI := beq_iff_eq.mpr c5
   have bH := bne_eq_false_iff_eq.mpr c5
   clear c5
   obtain rfl := Option.some.inj H
   go_enter Try.func24, Try.ntmps24
   go_wp2_with (first | ((with_reducible refine gate_dst (N := 5) rfl ?_); refine box_event rfl (N := 5) rfl (cs := #[.int .i64 aI, .int .i64 aG, .slice aP aA.length aM]) (t := 27) hr_ ?_; intro aK hg w6 hbox hb; have aC := q_ (hbox); have aB := ge_ hg (be_ HB.out); replace HB := q_ (below_step (be_ HB.out) hb); clear hb hbox hg; obtain ⟨dN, dM, dL, dK, dJ, dI⟩ := bx3_ aC.out))
   go_ret
   exact ⟨rf_, bs_ HB.out aB.out⟩
  rw [if_neg c5] at H
  have bI := beq_eq_false_iff_ne.mpr c5
  have bH := bne_iff_ne.mpr c5
  by_cases c8 : a1.toList = ([] : List UInt8)
  ·
   rw [if_pos c8] at H
   have dR := beq_iff_eq.mpr c8
   have dQ := bne_eq_false_iff_eq.mpr c8
   clear c8
   obtain rfl := Option.some.inj H
   go_enter Try.func24, Try.ntmps24
   go_wp2_with (first | ((with_reducible refine gate_dst (N := 5) rfl ?_); refine box_event rfl (N := 5) rfl (cs := #[.int .i64 aI, .int .i64 aG, .slice aP aA.length aM]) (t := 27) hr_ ?_; intro aK hg w9 hbox hb; have aC := q_ (hbox); have aB := ge_ hg (be_ HB.out); replace HB := q_ (below_step (be_ HB.out) hb); clear hb hbox hg; obtain ⟨dC, dB, dA, cK, cJ, cI⟩ := bx3_ aC.out))
   go_ret
   exact ⟨rf_, bs_ HB.out aB.out⟩
  rw [if_neg c8] at H
  have dR := beq_eq_false_iff_ne.mpr c8
  have dQ := bne_iff_ne.mpr c8
  obtain ⟨bG, aH⟩ : ∃ j_ : Int, (wrap64 ((aA.length : Int) - 1)) = j_ := ⟨_, rfl⟩
  first | rw [aH] at H | simp only [aH] at H
  (try rw [aH] at bI)
  (try rw [aH] at bH)
  have bB : (IntKind.i64.wrap ((aA.length : Int) - 1)) = bG := (i64_w _).trans aH
  obtain ⟨eE, H⟩ := id_ H
  obtain ⟨eD, H⟩ := id_ H
  obtain rfl := Option.some.inj H
  go_enter Try.func24, Try.ntmps24
  go_wp2_with (first | ((with_reducible refine gate_dst (N := 5) rfl ?_); refine box_event rfl (N := 5) rfl (cs := #[.int .i64 aI, .int .i64 aG, .slice aP aA.length aM]) (t := 27) hr_ ?_; intro aK hg eQ hbox hb; have aC := q_ (hbox); have aB := ge_ hg (be_ HB.out); replace HB := q_ (below_step (be_ HB.out) hb); clear hb hbox hg; obtain ⟨cZ, cY, cX, cH, cG, cF⟩ := bx3_ aC.out; obtain ⟨eF, dX, dT, dP, bS, bR, bQ, dG, dE, eK, eI⟩ := at3_ HB.out (at_T52 aL.out (bG)); cases dP))
  go_ret
  exact ⟨by first | rfl | (simp [errW_none, errW_some] <;> rfl) | (simp only [← aH]; first | rfl | (simp [errW_none, errW_some] <;> rfl)) | (simp [*, errW_none, errW_some] <;> rfl), bs_ HB.out aB.out⟩
 ·
  rw [if_neg c4] at H
  have dV := beq_eq_false_iff_ne.mpr c4
  have dU := bne_iff_ne.mpr c4
  obtain ⟨eC, H⟩ := ip_ H
  have eB : decide (0 < (aA.length : Int)) = true := decide_eq_true eC
  have eA : decide (0 < aA.length) = true := decide_eq_true (by omega)
  clear eC
  by_cases bE : (Op.bytesLess (((rd_T52 aA 0).f0.f0).toList) a0.toList) = true
  ·
   rw [if_pos bE] at H
   have bL : (Op.bytesLess (((rd_T52 aA 0).f0.f0).toList) a0.toList) = true := bE
   clear bE
   by_cases bD : (wrap64 (aG + (wrap64 ((aA.length : Int) - 1)))) = (wrap64 (aI - 1))
   ·
    rw [if_pos bD] at H
    have aZ := beq_iff_eq.mpr bD
    have aY := bne_eq_false_iff_eq.mpr bD
    clear bD
    obtain rfl := Option.some.inj H
    go_enter Try.func24, Try.ntmps24
    go_wp2_with (first | ((with_reducible refine gate_dst (N := 5) rfl ?_); refine box_event rfl (N := 5) rfl (cs := #[.int .i64 aI, .int .i64 aG, .slice aP aA.length aM]) (t := 27) hr_ ?_; intro aK hg eP hbox hb; have aC := q_ (hbox); have aB := ge_ hg (be_ HB.out); replace HB := q_ (below_step (be_ HB.out) hb); clear hb hbox hg; obtain ⟨cW, cV, cU, cE, cD, cC⟩ := bx3_ aC.out; obtain ⟨aU, aT, aS, aR, aF, aE, aD, aO, aN, bA, aQ⟩ := at3_ HB.out (at_T52 aL.out 0); cases aR; have aV : (0 < aA.length) = True := eq_true (by have := of_eq_true aQ; omega); (try simp only [Int.toNat_zero, Nat.zero_mul, Addr.add_zero'] at aF); (try simp only [Int.toNat_zero, Nat.zero_mul, Addr.add_zero'] at aE); (try simp only [Int.toNat_zero, Nat.zero_mul, Addr.add_zero'] at aD)))
    go_ret
    exact ⟨rf_, bs_ HB.out aB.out⟩
   rw [if_neg bD] at H
   have aZ := beq_eq_false_iff_ne.mpr bD
   have aY := bne_iff_ne.mpr bD
   by_cases bC : a1.toList = ([] : List UInt8)
   ·
    rw [if_pos bC] at H
    have bK := beq_iff_eq.mpr bC
    have bJ := bne_eq_false_iff_eq.mpr bC
    clear bC
    obtain rfl := Option.some.inj H
    go_enter Try.func24, Try.ntmps24
    go_wp2_with (first | ((with_reducible refine gate_dst (N := 5) rfl ?_); refine box_event rfl (N := 5) rfl (cs := #[.int .i64 aI, .int .i64 aG, .slice aP aA.length aM]) (t := 27) hr_ ?_; intro aK hg eO hbox hb; have aC := q_ (hbox); have aB := ge_ hg (be_ HB.out); replace HB := q_ (below_step (be_ HB.out) hb); clear hb hbox hg; obtain ⟨cT, cS, cR, cB, cA, bZ⟩ := bx3_ aC.out; obtain ⟨aU, aT, aS, aR, aF, aE, aD, aO, aN, bA, aQ⟩ := at3_ HB.out (at_T52 aL.out 0); cases aR; have aV : (0 < aA.length) = True := eq_true (by have := of_eq_true aQ; omega); (try simp only [Int.toNat_zero, Nat.zero_mul, Addr.add_zero'] at aF); (try simp only [Int.toNat_zero, Nat.zero_mul, Addr.add_zero'] at aE); (try simp only [Int.toNat_zero, Nat.zero_mul, Addr.add_zero'] at aD)))
    go_ret
    exact ⟨rf_, bs_ HB.out aB.out⟩
   rw [if_neg bC] at H
   have bK := beq_eq_false_iff_ne.mpr bC
   have bJ := bne_iff_ne.mpr bC
   obtain ⟨bF, aJ⟩ : ∃ j_ : Int, (wrap64 ((aA.length : Int) - 1)) = j_ := ⟨_, rfl⟩
   (try clear bB); (try clear aH)
   first | rw [aJ] at H | simp only [aJ] at H
   (try rw [aJ] at aZ)
   (try rw [aJ] at aY)
   have dH : (IntKind.i64.wrap ((aA.length : Int) - 1)) = bF := (i64_w _).trans aJ
   obtain ⟨dZ, H⟩ := id_ H
   obtain ⟨dY, H⟩ := id_ H
   obtain rfl := Option.some.inj H
   go_enter Try.func24, Try.ntmps24
   go_wp2_with (first | ((with_reducible refine gate_dst (N := 5) rfl ?_); refine box_event rfl (N := 5) rfl (cs := #[.int .i64 aI, .int .i64 aG, .slice aP aA.length aM]) (t := 27) hr_ ?_; intro aK hg eN hbox hb; have aC := q_ (hbox); have aB := ge_ hg (be_ HB.out); replace HB := q_ (below_step (be_ HB.out) hb); clear hb hbox hg; obtain ⟨cQ, cP, cO, bY, bX, bW⟩ := bx3_ aC.out; obtain ⟨aU, aT, aS, aR, aF, aE, aD, aO, aN, bA, aQ⟩ := at3_ HB.out (at_T52 aL.out 0); cases aR; have aV : (0 < aA.length) = True := eq_true (by have := of_eq_true aQ; omega); (try simp only [Int.toNat_zero, Nat.zero_mul, Addr.add_zero'] at aF); (try simp only [Int.toNat_zero, Nat.zero_mul, Addr.add_zero'] at aE); (try simp only [Int.toNat_zero, Nat.zero_mul, Addr.add_zero'] at aD); obtain ⟨bM, dW, dS, dO, bP, bO, bN, dF, dD, eJ, eH⟩ := at3_ HB.out (at_T52 aL.out (bF)); obtain rfl : aU = bM := (by injection dO)))
   go_ret
   exact ⟨by first | rfl | (simp [errW_none, errW_some] <;> rfl) | (simp only [← aJ]; first | rfl | (simp [errW_none, errW_some] <;> rfl)) | (simp [*, errW_none, errW_some] <;> rfl), bs_ HB.out aB.out⟩
  ·
   rw [if_neg bE] at H
   have bL : (Op.bytesLess (((rd_T52 aA 0).f0.f0).toList) a0.toList) = false := by simpa using bE
   clear bE
   obtain rfl := Option.some.inj H
   go_enter Try.func24, Try.ntmps24
   go_wp2_with (first | ((with_reducible refine gate_dst (N := 5) rfl ?_); refine box_event rfl (N := 5) rfl (cs := #[.int .i64 aI, .int .i64 aG, .slice aP aA.length aM]) (t := 27) hr_ ?_; intro aK hg eM hbox hb; have aC := q_ (hbox); have aB := ge_ hg (be_ HB.out); replace HB := q_ (below_step (be_ HB.out) hb); clear hb hbox hg; obtain ⟨cN, cM, cL, bV, bU, bT⟩ := bx3_ aC.out; obtain ⟨aU, aT, aS, aR, aF, aE, aD, aO, aN, bA, aQ⟩ := at3_ HB.out (at_T52 aL.out 0); cases aR; have aV : (0 < aA.length) = True := eq_true (by have := of_eq_true aQ; omega); (try simp only [Int.toNat_zero, Nat.zero_mul, Addr.add_zero'] at aF); (try simp only [Int.toNat_zero, Nat.zero_mul, Addr.add_zero'] at aE); (try simp only [Int.toNat_zero, Nat.zero_mul, Addr.add_zero'] at aD)))
   go_ret
   exact ⟨rf_, bs_ HB.out aB.out⟩
mutual
def impl_CheckBetween.j0 : Nat → ByteArray → ByteArray → Bool → Int → Int → List (S52) → Option ((List (S45)) × Bool)
 | 0, _, _, _, _, _, _ => none
 | k + 1, x1, x2, aI, aE, aD, aA => if aI = true then (some (([] : List (S45)), false)) else (impl_CheckBetween.l0 k x1 x2 ([] : List (S45)) aA (aA.length : Int) 0)
def impl_CheckBetween.l0 : Nat → ByteArray → ByteArray → List (S45) → List (S52) → Int → Int → Option ((List (S45)) × Bool)
 | 0, _, _, _, _, _, _ => none
 | k + 1, x1, x2, aF, aC, aH, aB => if aB < aH then (if 0 ≤ aB then (if aB < (aC.length : Int) then (if aF.length < 4398046511104 then (impl_CheckBetween.l0 k x1 x2 (aF ++ [(⟨(rd_T52 aC aB).f0.f0, (rd_T52 aC aB).f0.f1⟩ : S45)]) aC aH (wrap64 (aB + 1))) else (none)) else (none)) else (none)) else ((impl_Between.f k aF x1 x2).bind fun aG => (some (aG, true)))
end
def impl_CheckBetween.f (k : Nat) (a0 : ByteArray) (a1 : ByteArray) (a2 : ByteArray) (aA : Int) (aC : Int) (aB : List (S52)) : Option ((List (S45)) × Bool) := if aA = 0 then (if (aB.length : Int) = 0 then (if aC = 0 then ((impl_rootOf.f k ([] : List (S45))).bind fun aI => (some (([] : List (S45)), (a0.toList == aI.toList)))) else (some (([] : List (S45)), false))) else (some (([] : List (S45)), false))) else ((impl_inRange.f aA 1 60).bind fun aH => (if aH = true then ((impl_inRange.f (aB.length : Int) 1 aA).bind fun aG => (if aG = true then ((impl_inRange.f aC 0 (wrap64 (aA - 1))).bind fun aF => (if aF = true then ((impl_itemsOk.f k a0 aA aC aB).bind fun aE => (if aE = true then ((impl_reaches.f a1 a2 aA aC aB).bind fun aD => (impl_CheckBetween.j0 k a1 a2 (!aD) aA aC aB)) else (impl_CheckBetween.j0 k a1 a2 true aA aC aB))) else (impl_CheckBetween.j0 k a1 a2 true aA aC aB))) else (impl_CheckBetween.j0 k a1 a2 true aA aC aB))) else (impl_CheckBetween.j0 k a1 a2 true aA aC aB)))
theorem impl_CheckBetween.calls (k : Nat) (a0 : ByteArray) (a1 : ByteArray) (a2 : ByteArray) (aG : Int) (aH : Int) (aU : Option Addr) (aN : Nat) (aC : List (S52)) (r1 : List (S45)) (r2 : Bool) (w : World) (bD : Kd.C k52 w aU aC.length aC) (bE : aC.length ≤ aN) (h : impl_CheckBetween.f k a0 a1 a2 aG aH aC = some (r1, r2)) :
 Calls Try.prog 8 #[.string a0, .string a1, .string a2, .agg #[.int .i64 aG, .int .i64 aH, .slice aU aC.length aN]] w fun e w' => ∃ v0_ : Value, e = .returned (.tuple #[v0_, .bool r2]) ∧ Kd.R k45 45 w' w.heap.size (fun _ => True) v0_ r1 ∧ Below w.heap.size w w' := by
 have gH := Try.underlying27
 have gF := Try.underlying52
 have gG := Try.underlying45
 have aV := Aside0.mk bD
 have bA := Aside0.mk bE
 clear bD bE
 have HB := q_ (Below.refl w.heap.size w)
 have H := h
 clear h
 unfold impl_CheckBetween.f at H
 by_cases c5 : aG = 0
 ·
  rw [if_pos c5] at H
  have fL := beq_iff_eq.mpr c5
  have fK := bne_eq_false_iff_eq.mpr c5
  clear c5
  by_cases c6 : (aC.length : Int) = 0
  rotate_left
  ·
   rw [if_neg c6] at H
   have fJ := beq_eq_false_iff_ne.mpr c6
   have fI := bne_iff_ne.mpr c6
   have gI : ¬ (aC = []) := fun h_ => c6 (by rw [h_]; rfl)
   simp only [Option.some.injEq, Prod.mk.injEq] at H
   obtain ⟨rfl, rfl⟩ := H
   go_enter Try.func8, Try.ntmps8
   go_wp2_with (first | ((with_reducible refine gate_dst (N := 7) rfl ?_); (try (refine gate_guard (by rfl) ?_; dsimp only)); refine box_event rfl (N := 7) rfl (cs := #[.int .i64 aG, .int .i64 aH, .slice aU aC.length aN]) (t := 27) hr_ ?_; intro aK hg gS hbox hb; have aA := q_ (hbox); have aD := ge_ hg (be_ HB.out); replace HB := q_ (below_step (be_ HB.out) hb); clear hb hbox hg; obtain ⟨eG, eF, eE, cW, cV, cU⟩ := bx3_ aA.out))
   go_ret2
   exact ⟨_, rf_, by first | exact Kd.R_nil _ _ _ _ _ | exact Kd.N_nil _ _ _ _ _ | exact Kd.V_nil _ _ _ _ _ | exact Kd.Q_nil _ _ _ _ _ | exact Kd.S_nil _ _ _ _ _, bs_ HB.out aD.out⟩
  rw [if_pos c6] at H
  have fJ := beq_iff_eq.mpr c6
  have fI := bne_eq_false_iff_eq.mpr c6
  clear c6
  by_cases c7 : aH = 0
  rotate_left
  ·
   rw [if_neg c7] at H
   have fH := beq_eq_false_iff_ne.mpr c7
   have fG := bne_iff_ne.mpr c7
   simp only [Option.some.injEq, Prod.mk.injEq] at H
   obtain ⟨rfl, rfl⟩ := H
   go_enter Try.func8, Try.ntmps8
   go_wp2_with (first | ((with_reducible refine gate_dst (N := 7) rfl ?_); (try (refine gate_guard (by rfl) ?_; dsimp only)); refine box_event rfl (N := 7) rfl (cs := #[.int .i64 aG, .int .i64 aH, .slice aU aC.length aN]) (t := 27) hr_ ?_; intro aK hg gT hbox hb; have aA := q_ (hbox); have aD := ge_ hg (be_ HB.out); replace HB := q_ (below_step (be_ HB.out) hb); clear hb hbox hg; obtain ⟨eJ, eI, eH, cZ, cY, cX⟩ := bx3_ aA.out))
   go_ret2
   exact ⟨_, rf_, by first | exact Kd.R_nil _ _ _ _ _ | exact Kd.N_nil _ _ _ _ _ | exact Kd.V_nil _ _ _ _ _ | exact Kd.Q_nil _ _ _ _ _ | exact Kd.S_nil _ _ _ _ _, bs_ HB.out aD.out⟩
  rw [if_pos c7] at H
  have fH := beq_iff_eq.mpr c7
  have fG := bne_eq_false_iff_eq.mpr c7
  clear c7
  obtain ⟨fB, A8, H⟩ := bo_ H
  simp only [Option.some.injEq, Prod.mk.injEq] at H
  obtain ⟨rfl, rfl⟩ := H
  go_enter Try.func8, Try.ntmps8
  go_wp2_with (first | ((with_reducible refine gate_dst (N := 7) rfl ?_); (try (refine gate_guard (by rfl) ?_; dsimp only)); refine box_event rfl (N := 7) rfl (cs := #[.int .i64 aG, .int .i64 aH, .slice aU aC.length aN]) (t := 27) hr_ ?_; intro aK hg w9 hbox hb; have aA := q_ (hbox); have aD := ge_ hg (be_ HB.out); replace HB := q_ (below_step (be_ HB.out) hb); clear hb hbox hg; obtain ⟨eM, eL, eK, dC, dB, dA⟩ := bx3_ aA.out) | (go_at_call 20; (refine (impl_rootOf.calls k _ _ ([] : List (S45)) fB _ ?side1 ?side2 A8.out).mono ?_); (case side1 => exact Kd.C_nil _ _); (case side2 => exact Nat.le_refl _); rintro e gU ⟨rfl, hb⟩; replace aA := q_ (bb_ aA.out hb); replace HB := q_ (below_step (bs_ HB.out aD.out) hb); (try clear hb)))
  go_ret2
  exact ⟨_, rf_, by first | exact Kd.R_nil _ _ _ _ _ | exact Kd.N_nil _ _ _ _ _ | exact Kd.V_nil _ _ _ _ _ | exact Kd.Q_nil _ _ _ _ _ | exact Kd.S_nil _ _ _ _ _, bs_ HB.out aD.out⟩
 ·
  rw [if_neg c5] at H
  have fL := beq_eq_false_iff_ne.mpr c5
  have fK := bne_iff_ne.mpr c5
  have bF := Aside0.mk H
  clear H
  go_enter Try.func8, Try.ntmps8
  go_upto_region 3 with (first | ((with_reducible refine gate_dst (N := 7) rfl ?_); (try (refine gate_guard (by rfl) ?_; dsimp only)); refine box_event rfl (N := 7) rfl (cs := #[.int .i64 aG, .int .i64 aH, .slice aU aC.length aN]) (t := 27) hr_ ?_; intro aK hg gR hbox hb; have aA := q_ (hbox); have aD := ge_ hg (be_ HB.out); replace HB := q_ (below_step (be_ HB.out) hb); clear hb hbox hg; obtain ⟨eD, eC, eB, cT, cS, cR⟩ := bx3_ aA.out))
  (try simp only [Act.put, sa_, sz_, ss_])
  go_cut [64] (fun fZ wc => ∃ (kq : Nat) (aT : Bool), fZ = .bool aT ∧ Aside0 (impl_CheckBetween.j0 kq a1 a2 aT aG aH aC = some (r1, r2)) ∧ Aside0 (kq ≤ k) ∧ Aside0 (wc.heap[aK]? = some (.cells #[.int .i64 aG, .int .i64 aH, (.slice aU aC.length aN)] 27 (0, 0))) ∧ Aside0 (Below w.heap.size w wc))
  case first =>
   have H := bF.out
   clear bF
   obtain ⟨fA, bP, H⟩ := bo_ H
   by_cases eR : fA = true
   rotate_left
   ·
    replace eR := Bool.eq_false_iff.mpr eR
    subst eR
    rw [if_neg (show ¬ (false = true) by decide)] at H
    have H' := Aside0.mk H
    clear H
    obtain ⟨dL, dK, dJ, cB, cA, bZ⟩ := bx3_ aA.out
    go_wp2_with (first | ((with_reducible refine gate_callee (f := 22) rfl ?_); refine gl_ (some 32) Try.func22 #[.int .i64 aG, .int .i64 1, .int .i64 60] rfl al_ ?_; (with_reducible refine (impl_inRange.calls aG 1 60 false _ bP.out).mono ?_); rintro e w' ⟨rfl, ⟨nd, rfl⟩⟩; refine ⟨_, rfl, ?_⟩))
    go_meet
    case rel => exact ⟨_, (true), rs_, H', ⟨by first | omega | exact Nat.le_refl _⟩, ⟨bk_ aA.out⟩, ⟨bs_ HB.out aD.out⟩⟩
   subst eR
   rw [if_pos rfl] at H
   obtain ⟨eZ, eU, H⟩ := bo_ H
   by_cases eQ : eZ = true
   rotate_left
   ·
    replace eQ := Bool.eq_false_iff.mpr eQ
    subst eQ
    rw [if_neg (show ¬ (false = true) by decide)] at H
    have H' := Aside0.mk H
    clear H
    obtain ⟨dO, dN, dM, cE, cD, cC⟩ := bx3_ aA.out
    go_wp2_with (first | ((with_reducible refine gate_callee (f := 22) rfl ?_); refine gl_ (some 32) Try.func22 #[.int .i64 aG, .int .i64 1, .int .i64 60] rfl al_ ?_; (with_reducible refine (impl_inRange.calls aG 1 60 true _ bP.out).mono ?_); rintro e w' ⟨rfl, ⟨nd, rfl⟩⟩; refine ⟨_, rfl, ?_⟩) | (go_at_call 22; (with_reducible refine (impl_inRange.calls (aC.length : Int) 1 aG false _ eU.out).mono ?_); rintro e w' ⟨rfl, ⟨nd, rfl⟩⟩))
    go_meet
    case rel => exact ⟨_, (true), rs_, H', ⟨by first | omega | exact Nat.le_refl _⟩, ⟨bk_ aA.out⟩, ⟨bs_ HB.out aD.out⟩⟩
   subst eQ
   rw [if_pos rfl] at H
   obtain ⟨eY, fN, H⟩ := bo_ H
   by_cases eP : eY = true
   rotate_left
   ·
    replace eP := Bool.eq_false_iff.mpr eP
    subst eP
    rw [if_neg (show ¬ (false = true) by decide)] at H
    have H' := Aside0.mk H
    clear H
    obtain ⟨dR, dQ, dP, cH, cG, cF⟩ := bx3_ aA.out
    go_wp2_with (first | ((with_reducible refine gate_callee (f := 22) rfl ?_); refine gl_ (some 32) Try.func22 #[.int .i64 aG, .int .i64 1, .int .i64 60] rfl al_ ?_; (with_reducible refine (impl_inRange.calls aG 1 60 true _ bP.out).mono ?_); rintro e w' ⟨rfl, ⟨nd, rfl⟩⟩; refine ⟨_, rfl, ?_⟩) | (go_at_call 22; (with_reducible refine (impl_inRange.calls (aC.length : Int) 1 aG true _ eU.out).mono ?_); rintro e w' ⟨rfl, ⟨nd, rfl⟩⟩) | (go_at_call 22; (with_reducible refine (impl_inRange.calls aH 0 (wrap64 (aG - 1)) false _ fN.out).mono ?_); rintro e w' ⟨rfl, ⟨nd, rfl⟩⟩))
    go_meet
    case rel => exact ⟨_, (true), rs_, H', ⟨by first | omega | exact Nat.le_refl _⟩, ⟨bk_ aA.out⟩, ⟨bs_ HB.out aD.out⟩⟩
   subst eP
   rw [if_pos rfl] at H
   obtain ⟨eX, fX, H⟩ := bo_ H
   by_cases eO : eX = true
   rotate_left
   ·
    replace eO := Bool.eq_false_iff.mpr eO
    subst eO
    rw [if_neg (show ¬ (false = true) by decide)] at H
    have H' := Aside0.mk H
    clear H
    obtain ⟨dU, dT, dS, cK, cJ, cI⟩ := bx3_ aA.out
    go_wp2_with (first | ((with_reducible refine gate_callee (f := 22) rfl ?_); refine gl_ (some 32) Try.func22 #[.int .i64 aG, .int .i64 1, .int .i64 60] rfl al_ ?_; (with_reducible refine (impl_inRange.calls aG 1 60 true _ bP.out).mono ?_); rintro e w' ⟨rfl, ⟨nd, rfl⟩⟩; refine ⟨_, rfl, ?_⟩) | (go_at_call 22; (with_reducible refine (impl_inRange.calls (aC.length : Int) 1 aG true _ eU.out).mono ?_); rintro e w' ⟨rfl, ⟨nd, rfl⟩⟩) | (go_at_call 22; (with_reducible refine (impl_inRange.calls aH 0 (wrap64 (aG - 1)) true _ fN.out).mono ?_); rintro e w' ⟨rfl, ⟨nd, rfl⟩⟩) | (go_at_call 23; (with_reducible refine (impl_itemsOk.calls k a0 aG aH _ _ aC false _ ?side1 ?side2 fX.out).mono ?_); (case side1 => repeat (first | exact (Kd.C_below aV.out (bs_ HB.out aD.out)) | (with_reducible refine Kd.C_alloc ?_ _) | (with_reducible refine Kd.C_drewN ?_ _) | (with_reducible refine Kd.C_drew ?_))); (case side2 => exact bA.out); rintro e gO ⟨rfl, hb⟩; replace aA := q_ (bb_ aA.out hb); replace HB := q_ (below_step (bs_ HB.out aD.out) hb); (try clear hb)))
    go_meet
    case rel => exact ⟨_, (true), rs_, H', ⟨by first | omega | exact Nat.le_refl _⟩, ⟨bk_ aA.out⟩, ⟨bs_ HB.out aD.out⟩⟩
   subst eO
   rw [if_pos rfl] at H
   obtain ⟨bH, gK, H⟩ := bo_ H
   have H' := Aside0.mk H
   clear H
   obtain ⟨eA, dZ, dY, cQ, cP, cO⟩ := bx3_ aA.out
   go_wp2_with (first | ((with_reducible refine gate_callee (f := 22) rfl ?_); refine gl_ (some 32) Try.func22 #[.int .i64 aG, .int .i64 1, .int .i64 60] rfl al_ ?_; (with_reducible refine (impl_inRange.calls aG 1 60 true _ bP.out).mono ?_); rintro e w' ⟨rfl, ⟨nd, rfl⟩⟩; refine ⟨_, rfl, ?_⟩) | (go_at_call 22; (with_reducible refine (impl_inRange.calls (aC.length : Int) 1 aG true _ eU.out).mono ?_); rintro e w' ⟨rfl, ⟨nd, rfl⟩⟩) | (go_at_call 22; (with_reducible refine (impl_inRange.calls aH 0 (wrap64 (aG - 1)) true _ fN.out).mono ?_); rintro e w' ⟨rfl, ⟨nd, rfl⟩⟩) | (go_at_call 23; (with_reducible refine (impl_itemsOk.calls k a0 aG aH _ _ aC true _ ?side1 ?side2 fX.out).mono ?_); (case side1 => repeat (first | exact (Kd.C_below aV.out (bs_ HB.out aD.out)) | (with_reducible refine Kd.C_alloc ?_ _) | (with_reducible refine Kd.C_drewN ?_ _) | (with_reducible refine Kd.C_drew ?_))); (case side2 => exact bA.out); rintro e gQ ⟨rfl, hb⟩; replace aA := q_ (bb_ aA.out hb); replace HB := q_ (below_step (bs_ HB.out aD.out) hb); (try clear hb); obtain ⟨dX, dW, dV, cN, cM, cL⟩ := bx3_ aA.out) | (go_at_call 24; (with_reducible refine (impl_reaches.calls a1 a2 aG aH _ _ aC bH _ ?side1 ?side2 gK.out).mono ?_); (case side1 => exact kc_ (Kd.C_below aV.out HB.out)); (case side2 => exact bA.out); rintro e gP ⟨rfl, hb⟩; replace aA := q_ (bb_ aA.out hb); replace HB := q_ (below_step (bs_ HB.out aD.out) hb); (try clear hb)))
   go_meet
   case rel => exact ⟨_, (!bH), rs_, H', ⟨by first | omega | exact Nat.le_refl _⟩, ⟨bk_ aA.out⟩, ⟨bs_ HB.out aD.out⟩⟩
  case rest =>
   clear bF
   obtain ⟨kq, aT, rfl, HA, bO, aA, HB⟩ := hcut
   cases kq with
   | zero => exact absurd HA.out (by simp [impl_CheckBetween.j0])
   | succ bI =>
    have H := HA.out
    clear HA
    simp only [impl_CheckBetween.j0] at H
    by_cases eN : aT = true
    · subst eN
      rw [if_pos rfl] at H
      simp only [Option.some.injEq, Prod.mk.injEq] at H
      obtain ⟨rfl, rfl⟩ := H
      go_wp2
      go_ret2
      exact ⟨_, rf_, by first | exact Kd.R_nil _ _ _ _ _ | exact Kd.N_nil _ _ _ _ _ | exact Kd.V_nil _ _ _ _ _ | exact Kd.Q_nil _ _ _ _ _ | exact Kd.S_nil _ _ _ _ _, bs_ HB.out aD.out⟩
    ·
     replace eN := Bool.eq_false_iff.mpr eN
     subst eN
     rw [if_neg (show ¬ (false = true) by decide)] at H
     have H' := Aside0.mk H
     clear H
     obtain ⟨dI, dH, dG, bY, bX, bW⟩ := bx3_ aA.out
     go_wp2
     go_loopg [10, 68] bI (fun kq gC fY w' => ∃ (aM : List (S45)) (aE : Int), fY = .int .i64 aE ∧ Aside0 (impl_CheckBetween.l0 kq a1 a2 aM aC (aC.length : Int) aE = some (r1, r2)) ∧ Aside0 (kq ≤ bI) ∧ Aside0 (Kd.R k45 45 w' w.heap.size (fun _ => True) gC aM) ∧ Aside0 (w'.heap[aK]? = some (.cells #[.int .i64 aG, .int .i64 aH, (.slice aU aC.length aN)] 27 (0, 0))) ∧ Aside0 (Below w.heap.size w w'))
     case atStart => exact ⟨(([] : List (S45))), (0), rs_, H', ⟨Nat.le_refl _⟩, ⟨by first | exact Kd.R_nil _ _ _ _ _ | exact Kd.N_nil _ _ _ _ _ | exact Kd.V_nil _ _ _ _ _ | exact Kd.Q_nil _ _ _ _ _ | exact Kd.S_nil _ _ _ _ _⟩, ⟨bk_ aA.out⟩, ⟨bs_ HB.out aD.out⟩⟩
     case round =>
      clear H'
      obtain ⟨aM, aE, rfl, HA, fW, aI, aA, HB⟩ := hrel
      cases gk with
      | zero => exact absurd HA.out (by simp [impl_CheckBetween.l0])
      | succ k2 =>
       have H := HA.out
       clear HA
       simp only [impl_CheckBetween.l0] at H
       by_cases bG : aE < (aC.length : Int)
       · rw [if_pos bG] at H
         have bJ := decide_eq_true bG
         clear bG
         obtain ⟨fV, H⟩ := id_ H
         obtain ⟨fU, H⟩ := id_ H
         obtain ⟨bL, H⟩ := ia_ H
         obtain ⟨eV, aX⟩ : ∃ y_ : List (S45), y_ = (aM ++ [(⟨(rd_T52 aC aE).f0.f0, (rd_T52 aC aE).f0.f1⟩ : S45)]) := ⟨_, rfl⟩
         rw [← aX] at H
         have bK := Aside0.mk aX
         clear aX
         have H' := Aside0.mk H
         clear H
         obtain ⟨aZ, bC, aY, fE, bS, bR, bQ, eT, eS, gE, gD⟩ := at3_ HB.out (at_T52 aV.out aE)
         cases fE
         go_wp2_with (first | ((with_reducible refine gate_dst (N := 12) rfl ?_); (try (refine gate_guard (by rfl) ?_; dsimp only)); refine box_event rfl (N := 12) rfl (cs := #[.string (⟨#[]⟩ : ByteArray), .string (⟨#[]⟩ : ByteArray), .slice none 0 0]) (t := 52) hr_ ?_; intro aQ hg gN hbox hb; replace aI := q_ (Kd.R_below (kr_ aI.out) hb); have aR := q_ (hbox); have bB := ge_ hg (bs_ HB.out aD.out); replace HB := q_ (below_step (bs_ HB.out aD.out) hb); have aJ := q_ ((by rw [hg]; exact Nat.ne_of_lt (blk_lt (g := aK) (o := .cells #[.int .i64 aG, .int .i64 aH, .slice (some aZ) aC.length aN] 27 (0, 0)) (bk_ aA.out)) : aK ≠ aQ)); have aW := q_ ((by rw [hg]; exact Nat.ne_of_gt (blk_lt (g := aK) (o := .cells #[.int .i64 aG, .int .i64 aH, .slice (some aZ) aC.length aN] 27 (0, 0)) (bk_ aA.out)) : aQ ≠ aK)); replace aA := q_ (bb_ aA.out hb); clear hb hbox hg; have fT := aW.out; have fS := aJ.out; obtain ⟨dF, dE, dD, bV, bU, bT⟩ := bx3_ aR.out) | ((with_reducible refine gate_builtin (b := .append) (xs := #[.tmp 72, .tmp 75]) rfl ?_); (try (refine gate_guard (by rfl) ?_; dsimp only)); at_builtin; refine Kd.R_append k45 (w0 := w) w.heap.size rfl (.tmp 72) (.tmp 75) 24 45 (.agg #[(.string ⟨#[]⟩), (.string ⟨#[]⟩)]) 32 rfl Try.underlying24 info45 rfl (by decide) (by omega) u10 aM (⟨(rd_T52 aC aE).f0.f0, (rd_T52 aC aE).f0.f1⟩ : S45) [.string ((rd_T52 aC aE).f0.f0), .string ((rd_T52 aC aE).f0.f1)] (fun _ => True) (fun _ => False) rfl (by first | (go_simp; done) | (go_simp; rfl)) ?aP (fun _ hk => hk.elim) ?aF ?aO ?aB ?aS ?aL ?_; (case aP => exact k45_mkM _ _ _ (⟨(rd_T52 aC aE).f0.f0, (rd_T52 aC aE).f0.f1⟩ : S45)); (case aB => exact (b2_ HB.out aD.out bB.out)); (case aF => exact (fun _ _ => trivial)); (case aO => exact (by (with_reducible repeat (first | apply Kd.R_alloc | apply Kd.R_drewN | apply Kd.R_drew)); exact Kd.R_mono (Kd.R_far (p := ⟨aQ, 2, none⟩) (Kd.R_far (p := ⟨aQ, 1, none⟩) (Kd.R_far (p := ⟨aQ, 0, none⟩) (Kd.R_types aI.out aR.out (by decide)) (fun _ hk => hk.2) (.string ((rd_T52 aC aE).f0.f0))) (fun _ hk => hk.2) (.string ((rd_T52 aC aE).f0.f1))) (fun _ hk => hk.2) (.slice bC ((rd_T52 aC aE).f1).length aY)) (fun _ hk => trivial))); (case aS => exact (below_size (b2_ HB.out aD.out bB.out))); (case aL => have := bL.out; omega); intro gB gM ho hb hg hat; rw [← bK.out] at ho; have fR := q_ (blk_grown (g := aK) (o := .cells #[.int .i64 aG, .int .i64 aH, .slice (some aZ) aC.length aN] 27 (0, 0)) (by (with_reducible repeat (first | refine blk_drewN ?_ _ | refine blk_drew ?_ | refine blk_alloc ?_ _)); refine blk_far ?_ aJ.out _; (with_reducible repeat (first | refine blk_drewN ?_ _ | refine blk_drew ?_ | refine blk_alloc ?_ _)); refine blk_far ?_ aJ.out _; (with_reducible repeat (first | refine blk_drewN ?_ _ | refine blk_drew ?_ | refine blk_alloc ?_ _)); refine blk_far ?_ aJ.out _; (with_reducible repeat (first | refine blk_drewN ?_ _ | refine blk_drew ?_ | refine blk_alloc ?_ _)); exact aA.out) hg (Kd.R_ne aI.out aA.out (by decide))); have fQ := q_ (blk_grown (g := aQ) (o := .cells #[.string ((rd_T52 aC aE).f0.f0), .string ((rd_T52 aC aE).f0.f1), .slice bC ((rd_T52 aC aE).f1).length aY] 52 (0, 0)) (by (with_reducible repeat (first | refine blk_drewN ?_ _ | refine blk_drew ?_ | refine blk_alloc ?_ _)); refine blk_put (cs := #[.string ((rd_T52 aC aE).f0.f0), .string ((rd_T52 aC aE).f0.f1), .slice none 0 0]) ?_ 2 _ rfl; (with_reducible repeat (first | refine blk_drewN ?_ _ | refine blk_drew ?_ | refine blk_alloc ?_ _)); refine blk_put (cs := #[.string ((rd_T52 aC aE).f0.f0), .string (⟨#[]⟩ : ByteArray), .slice none 0 0]) ?_ 1 _ rfl; (with_reducible repeat (first | refine blk_drewN ?_ _ | refine blk_drew ?_ | refine blk_alloc ?_ _)); refine blk_put (cs := #[.string (⟨#[]⟩ : ByteArray), .string (⟨#[]⟩ : ByteArray), .slice none 0 0]) ?_ 0 _ rfl; (with_reducible repeat (first | refine blk_drewN ?_ _ | refine blk_drew ?_ | refine blk_alloc ?_ _)); exact aR.out) hg (Kd.R_ne aI.out aR.out (by decide))); have fP := q_ (hb); have fO := q_ (ho); clear aA; clear aR; clear HB; clear aI; have aA := fR; have aR := fQ; have HB := fP; have bN := fO; clear fR fQ fP fO; clear ho hb hg hat))
         go_roundg k2
         case measure => have := bO.out; have := fW.out; omega
         case rel => exact ⟨(eV), (wrap64 (aE + 1)), rs_, H', ⟨by have := bO.out; have := fW.out; omega⟩, ⟨kr_ bN.out⟩, ⟨bk_ aA.out⟩, ⟨b2_ HB.out aD.out bB.out⟩⟩
       · rw [if_neg bG] at H
         have bJ := decide_eq_false bG
         clear bG
         obtain ⟨eW, gJ, H⟩ := bo_ H
         simp only [Option.some.injEq, Prod.mk.injEq] at H
         obtain ⟨rfl, rfl⟩ := H
         obtain ⟨fM, fF, fD⟩ := Kd.R_slice aI.out
         subst fD
         go_wp2_with (first | ((with_reducible refine gate_callee (f := 7) rfl ?_); refine gl_ (some 81) Try.func7 #[.slice fM aM.length fF, .string a1, .string a2] rfl al_ ?_; (with_reducible refine (impl_Between.calls k2 _ _ aM a1 a2 eW _ ?side1 ?side2 gJ.out).mono ?_); (case side1 => exact kc_ (Kd.R_reads' aI.out).2.2); (case side2 => exact (Kd.R_reads' aI.out).2.1); rintro e gL ⟨gA, rfl, fC, hb⟩; refine ⟨_, rfl, ?_⟩; have bM := q_ (Kd.R_lower (Kd.R_new' fC (Kd.R_lt (kr_ aI.out))) (below_size (bs_ HB.out aD.out))); replace aI := q_ (Kd.R_elder' (kr_ aI.out) (Kd.R_base fC) hb); replace aA := q_ (bb_ aA.out hb); replace HB := q_ (below_step (bs_ HB.out aD.out) hb); (try clear hb); (try clear fC)))
         go_ret2
         exact ⟨_, rf_, by (with_reducible repeat (first | apply Kd.R_alloc | apply Kd.R_drewN | apply Kd.R_drew)); exact Kd.R_mono bM.out (fun _ hk => trivial), bs_ HB.out aD.out⟩
def impl_PairsOk.l0 : Nat → List (S45) → List (S45) → Int → Int → Option (Bool)
 | 0, _, _, _, _ => none
 | k + 1, x0, x5, x6, x7 => if x7 < x6 then (if 0 ≤ x7 then (if x7 < (x5.length : Int) then ((impl_PairOk.f k ((rd_T45 x5 x7).f0) ((rd_T45 x5 x7).f1)).bind fun aA => (if aA = true then (if x7 > 0 then (if 0 ≤ (wrap64 (x7 - 1)) then (if (wrap64 (x7 - 1)) < (x0.length : Int) then (if ((Op.bytesLess (((rd_T45 x0 (wrap64 (x7 - 1))).f0).toList) (((rd_T45 x5 x7).f0).toList)) = true) then (impl_PairsOk.l0 k x0 x5 x6 (wrap64 (x7 + 1))) else (some false)) else (none)) else (none)) else (impl_PairsOk.l0 k x0 x5 x6 (wrap64 (x7 + 1)))) else (some false))) else (none)) else (none)) else (some (decide ((x0.length : Int) ≤ 60)))
def impl_PairsOk.f (k : Nat) (l0 : List (S45)) : Option (Bool) := impl_PairsOk.l0 k l0 l0 (l0.length : Int) 0
def impl_PairsOk.T4 : Bool × List (List Nat × List Nat) := (true, [([], []), ([0], [0]), ([1], [1]), ([2, 1], [2]), ([3], [3]), ([4, 3], [3, 4]), ([5, 3, 3], [3, 5]), ([6], [6]), ([7, 6], [6, 7]), ([6], [6]), ([6], [6]), ([10, 6], [6, 10]), ([9, 11, 6], [6, 9, 11]), ([12, 6], [6, 12]), ([13, 6], [6, 13]), ([8, 14, 6], [6, 8, 14]), ([6, 15, 3], [3, 6, 15]), ([3, 16], [3, 16])])
def impl_PairsOk.B4 : List Nat := [0, 1, 3, 7, 15, 31, 63, 127, 255, 127, 127, 1151, 3711, 7807, 15999, 32767, 65535, 131071]
theorem impl_PairsOk.tab4 : rtab .any (opsOf Try.f25 4) = impl_PairsOk.T4 := by kernel_rfl
theorem impl_PairsOk.bits4 : waitsOk impl_PairsOk.T4.2 impl_PairsOk.B4 = true := by kernel_rfl
theorem impl_PairsOk.calls (k : Nat) (A0 : Option Addr) (c0 : Nat) (l0 : List (S45)) (r : Bool) (w : World) (bS : Kd.C k45 w A0 l0.length l0) (bU : l0.length ≤ c0) (h : impl_PairsOk.f k l0 = some r) :
 Calls Try.prog 25 #[.slice A0 l0.length c0] w fun e w' => e = .returned (.bool r) ∧ Below w.heap.size w w' := by
 have cA := Try.underlying45
 have bJ := Aside0.mk bS
 have cK := Aside0.mk bU
 clear bS bU
 have HB := q_ (Below.refl w.heap.size w)
 have H := h
 clear h
 unfold impl_PairsOk.f at H
 have H' := Aside0.mk H
 clear H
 go_enter Try.func25, Try.ntmps25
 go_wp2
 go_loopg [7] k (fun kq v7 w' => ∃ (aA : Int), v7 = .int .i64 aA ∧ Aside0 (impl_PairsOk.l0 kq l0 l0 (l0.length : Int) aA = some r) ∧ Aside0 (kq ≤ k) ∧ Aside0 (Below w.heap.size w w'))
 case atStart => exact ⟨(0), rs_, H', ⟨Nat.le_refl _⟩, ⟨be_ HB.out⟩⟩
 case round =>
  clear H'
  obtain ⟨aA, rfl, HA, bK, HB⟩ := hrel
  cases gk with
  | zero => exact absurd HA.out (by simp [impl_PairsOk.l0])
  | succ k1 =>
   have H := HA.out
   clear HA
   simp only [impl_PairsOk.l0] at H
   by_cases c2 : aA < (l0.length : Int)
   ·
    rw [if_pos c2] at H
    have bR := decide_eq_true c2
    clear c2
    obtain ⟨cD, H⟩ := id_ H
    obtain ⟨cC, H⟩ := id_ H
    obtain ⟨bO, A5, H⟩ := bo_ H
    by_cases c6 : bO = true
    rotate_left
    ·
     replace c6 := Bool.eq_false_iff.mpr c6
     subst c6
     rw [if_neg (show ¬ (false = true) by decide)] at H
     obtain rfl := Option.some.inj H
     obtain ⟨aG, aP, aI, aH, aV, aU⟩ := at2_ HB.out (at_T45 bJ.out aA)
     cases aP
     try go_wp2_with (first | ((with_reducible refine gate_dst (N := 4) rfl ?_); refine box_event rfl (N := 4) rfl (cs := #[.string (⟨#[]⟩ : ByteArray), .string (⟨#[]⟩ : ByteArray)]) (t := 45) hr_ ?_; intro aC hg bL hbox hb; have aB := q_ (hbox); have aD := ge_ hg (be_ HB.out); replace HB := q_ (below_step (be_ HB.out) hb); clear hb hbox hg; obtain ⟨bE, bD, aY, aX⟩ := bx2_ aB.out))
     have aN : Aside0 (((bL.setCell ⟨aC, 0, none⟩ (.string ((rd_T45 l0 aA).f0))).setCell ⟨aC, 1, none⟩ (.string ((rd_T45 l0 aA).f1))).heap[aC]? = some (.cells #[.string ((rd_T45 l0 aA).f0), .string ((rd_T45 l0 aA).f1)] 45 (0, 0))) := ⟨by (with_reducible repeat (first | refine blk_drewN ?_ _ | refine blk_drew ?_ | refine blk_alloc ?_ _)); refine blk_put (cs := #[.string ((rd_T45 l0 aA).f0), .string (⟨#[]⟩ : ByteArray)]) ?_ 1 _ rfl; (with_reducible repeat (first | refine blk_drewN ?_ _ | refine blk_drew ?_ | refine blk_alloc ?_ _)); refine blk_put (cs := #[.string (⟨#[]⟩ : ByteArray), .string (⟨#[]⟩ : ByteArray)]) ?_ 0 _ rfl; (with_reducible repeat (first | refine blk_drewN ?_ _ | refine blk_drew ?_ | refine blk_alloc ?_ _)); exact aB.out⟩
     have aM : Aside0 (Below w.heap.size w ((bL.setCell ⟨aC, 0, none⟩ (.string ((rd_T45 l0 aA).f0))).setCell ⟨aC, 1, none⟩ (.string ((rd_T45 l0 aA).f1)))) := ⟨bs_ HB.out aD.out⟩
     (try clear aB)
     (try clear HB)
     generalize ((bL.setCell ⟨aC, 0, none⟩ (.string ((rd_T45 l0 aA).f0))).setCell ⟨aC, 1, none⟩ (.string ((rd_T45 l0 aA).f1))) = bX at aN aM ⊢
     have aB := aN
     have HB := aM
     clear aN aM
     replace aB := q_ (blk_drew aB.out)
     replace HB := q_ (below_drew1 HB.out)
     refine sr_ (fun w' => w'.cell? ⟨aC, 0, none⟩ = some (.string ((rd_T45 l0 aA).f0)) ∧ w'.cell? ⟨aC, 1, none⟩ = some (.string ((rd_T45 l0 aA).f1))) [] impl_PairsOk.tab4 impl_PairsOk.bits4 ⟨(blk_cell aB.out 0).trans rfl, (blk_cell aB.out 1).trans rfl⟩ (fun hD hT hW => ?_)
     generalize bX.drew = cF at aB HB hD ⊢
     refine k_ 0 12 hT hW hD ?_
     refine oc_ 1 13 (bq_ 2 16) hT Try.func48 #[.agg #[.string ((rd_T45 l0 aA).f0), .string ((rd_T45 l0 aA).f1)]] ?_
     with_reducible refine (impl_PairOk.calls k1 ((rd_T45 l0 aA).f0) ((rd_T45 l0 aA).f1) false _ A5.out).mono ?_
     rintro e cE ⟨rfl, hb⟩
     refine ⟨_, rfl, ?_⟩
     replace aB := q_ (bb_ aB.out hb)
     replace HB := q_ (below_step (bs_ HB.out aD.out) hb)
     (try clear hb)
     (try clear bV)
     (try clear hk)
     (try clear hi)
     refine ⟨⟨(blk_cell aB.out 0).trans rfl, (blk_cell aB.out 1).trans rfl⟩, fun hD => nm_ ?_⟩
     refine p_ 2 14 hT ?_; refine p_ 3 15 hT ?_; refine u_ 4 16 hT ?_; refine u_ 5 17 hT ?_; refine u_ 6 18 hT ?_; refine u_ 7 19 hT ?_; refine u_ 8 20 hT ?_; refine u_ 9 21 hT ?_; refine u_ 10 22 hT ?_; refine u_ 11 23 hT ?_; refine u_ 12 24 hT ?_; refine u_ 13 25 hT ?_; refine u_ 14 26 hT ?_; refine u_ 15 27 hT ?_; refine u_ 16 28 hT ?_; refine p_ 17 29 hT ?_
     refine done_ (done_of hT.out (by kernel_rfl)) ?_
     try go_wp2
     go_ret
     exact ⟨rf_, bs_ HB.out aD.out⟩
    subst c6
    rw [if_pos rfl] at H
    by_cases c7 : aA > 0
    rotate_left
    ·
     rw [if_neg c7] at H
     have bQ : decide (0 < aA) = false := decide_eq_false c7
     clear c7
     have H' := Aside0.mk H
     clear H
     obtain ⟨aG, aP, aI, aH, aV, aU⟩ := at2_ HB.out (at_T45 bJ.out aA)
     cases aP
     try go_wp2_with (first | ((with_reducible refine gate_dst (N := 4) rfl ?_); refine box_event rfl (N := 4) rfl (cs := #[.string (⟨#[]⟩ : ByteArray), .string (⟨#[]⟩ : ByteArray)]) (t := 45) hr_ ?_; intro aC hg bM hbox hb; have aB := q_ (hbox); have aD := ge_ hg (be_ HB.out); replace HB := q_ (below_step (be_ HB.out) hb); clear hb hbox hg; obtain ⟨bG, bF, bA, aZ⟩ := bx2_ aB.out))
     have aN : Aside0 (((bM.setCell ⟨aC, 0, none⟩ (.string ((rd_T45 l0 aA).f0))).setCell ⟨aC, 1, none⟩ (.string ((rd_T45 l0 aA).f1))).heap[aC]? = some (.cells #[.string ((rd_T45 l0 aA).f0), .string ((rd_T45 l0 aA).f1)] 45 (0, 0))) := ⟨by (with_reducible repeat (first | refine blk_drewN ?_ _ | refine blk_drew ?_ | refine blk_alloc ?_ _)); refine blk_put (cs := #[.string ((rd_T45 l0 aA).f0), .string (⟨#[]⟩ : ByteArray)]) ?_ 1 _ rfl; (with_reducible repeat (first | refine blk_drewN ?_ _ | refine blk_drew ?_ | refine blk_alloc ?_ _)); refine blk_put (cs := #[.string (⟨#[]⟩ : ByteArray), .string (⟨#[]⟩ : ByteArray)]) ?_ 0 _ rfl; (with_reducible repeat (first | refine blk_drewN ?_ _ | refine blk_drew ?_ | refine blk_alloc ?_ _)); exact aB.out⟩
     have aM : Aside0 (Below w.heap.size w ((bM.setCell ⟨aC, 0, none⟩ (.string ((rd_T45 l0 aA).f0))).setCell ⟨aC, 1, none⟩ (.string ((rd_T45 l0 aA).f1)))) := ⟨bs_ HB.out aD.out⟩
     (try clear aB)
     (try clear HB)
     generalize ((bM.setCell ⟨aC, 0, none⟩ (.string ((rd_T45 l0 aA).f0))).setCell ⟨aC, 1, none⟩ (.string ((rd_T45 l0 aA).f1))) = bY at aN aM ⊢
     have aB := aN
     have HB := aM
     clear aN aM
     replace aB := q_ (blk_drew aB.out)
     replace HB := q_ (below_drew1 HB.out)
     refine sr_ (fun w' => w'.cell? ⟨aC, 0, none⟩ = some (.string ((rd_T45 l0 aA).f0)) ∧ w'.cell? ⟨aC, 1, none⟩ = some (.string ((rd_T45 l0 aA).f1))) [] impl_PairsOk.tab4 impl_PairsOk.bits4 ⟨(blk_cell aB.out 0).trans rfl, (blk_cell aB.out 1).trans rfl⟩ (fun hD hT hW => ?_)
     generalize bY.drew = cH at aB HB hD ⊢
     refine k_ 0 12 hT hW hD ?_
     refine oc_ 1 13 (bq_ 2 16) hT Try.func48 #[.agg #[.string ((rd_T45 l0 aA).f0), .string ((rd_T45 l0 aA).f1)]] ?_
     with_reducible refine (impl_PairOk.calls k1 ((rd_T45 l0 aA).f0) ((rd_T45 l0 aA).f1) true _ A5.out).mono ?_
     rintro e cG ⟨rfl, hb⟩
     refine ⟨_, rfl, ?_⟩
     replace aB := q_ (bb_ aB.out hb)
     replace HB := q_ (below_step (bs_ HB.out aD.out) hb)
     (try clear hb)
     (try clear bV)
     (try clear hk)
     (try clear hi)
     refine ⟨⟨(blk_cell aB.out 0).trans rfl, (blk_cell aB.out 1).trans rfl⟩, fun hD => nm_ ?_⟩
     refine p_ 2 14 hT ?_; refine p_ 3 15 hT ?_; refine p_ 4 16 hT ?_; refine p_ 5 17 hT ?_; refine p_ 6 18 hT ?_; refine u_ 7 19 hT ?_; refine u_ 8 20 hT ?_; refine u_ 9 21 hT ?_; refine u_ 10 22 hT ?_; refine u_ 11 23 hT ?_; refine u_ 12 24 hT ?_; refine u_ 13 25 hT ?_; refine u_ 14 26 hT ?_; refine u_ 15 27 hT ?_; refine p_ 16 28 hT ?_; refine p_ 17 29 hT ?_
     refine done_ (done_of hT.out (by kernel_rfl)) ?_
     try go_wp2
     go_roundg k1
     case measure => have := bK.out; omega
     case rel => exact ⟨(wrap64 (aA + 1)), rs_, H', ⟨by have := bK.out; omega⟩, ⟨bs_ HB.out aD.out⟩⟩
    rw [if_pos c7] at H
    have bQ : decide (0 < aA) = true := decide_eq_true c7
    clear c7
    obtain ⟨aL, aO⟩ : ∃ j_ : Int, (wrap64 (aA - 1)) = j_ := ⟨_, rfl⟩
    first | rw [aO] at H | simp only [aO] at H
    (try rw [aO] at A5)
    have bT : (IntKind.i64.wrap (aA - 1)) = aL := (i64_w _).trans aO
    obtain ⟨cB, H⟩ := id_ H
    obtain ⟨bW, H⟩ := id_ H
    have HZ := Aside0.mk H
    clear H
    obtain ⟨aG, aP, aI, aH, aV, aU⟩ := at2_ HB.out (at_T45 bJ.out aA)
    cases aP
    try go_wp2_with (first | ((with_reducible refine gate_dst (N := 4) rfl ?_); refine box_event rfl (N := 4) rfl (cs := #[.string (⟨#[]⟩ : ByteArray), .string (⟨#[]⟩ : ByteArray)]) (t := 45) hr_ ?_; intro aC hg bN hbox hb; have aB := q_ (hbox); have aD := ge_ hg (be_ HB.out); replace HB := q_ (below_step (be_ HB.out) hb); clear hb hbox hg; obtain ⟨bI, bH, bC, bB⟩ := bx2_ aB.out))
    have aN : Aside0 (((bN.setCell ⟨aC, 0, none⟩ (.string ((rd_T45 l0 aA).f0))).setCell ⟨aC, 1, none⟩ (.string ((rd_T45 l0 aA).f1))).heap[aC]? = some (.cells #[.string ((rd_T45 l0 aA).f0), .string ((rd_T45 l0 aA).f1)] 45 (0, 0))) := ⟨by (with_reducible repeat (first | refine blk_drewN ?_ _ | refine blk_drew ?_ | refine blk_alloc ?_ _)); refine blk_put (cs := #[.string ((rd_T45 l0 aA).f0), .string (⟨#[]⟩ : ByteArray)]) ?_ 1 _ rfl; (with_reducible repeat (first | refine blk_drewN ?_ _ | refine blk_drew ?_ | refine blk_alloc ?_ _)); refine blk_put (cs := #[.string (⟨#[]⟩ : ByteArray), .string (⟨#[]⟩ : ByteArray)]) ?_ 0 _ rfl; (with_reducible repeat (first | refine blk_drewN ?_ _ | refine blk_drew ?_ | refine blk_alloc ?_ _)); exact aB.out⟩
    have aM : Aside0 (Below w.heap.size w ((bN.setCell ⟨aC, 0, none⟩ (.string ((rd_T45 l0 aA).f0))).setCell ⟨aC, 1, none⟩ (.string ((rd_T45 l0 aA).f1)))) := ⟨bs_ HB.out aD.out⟩
    (try clear aB)
    (try clear HB)
    generalize ((bN.setCell ⟨aC, 0, none⟩ (.string ((rd_T45 l0 aA).f0))).setCell ⟨aC, 1, none⟩ (.string ((rd_T45 l0 aA).f1))) = bZ at aN aM ⊢
    have aB := aN
    have HB := aM
    clear aN aM
    replace aB := q_ (blk_drew aB.out)
    replace HB := q_ (below_drew1 HB.out)
    have aS : 0 ≤ ((aL) : Int) := od_
    have aR : (aL) < (l0.length : Int) := od_
    obtain ⟨aW, bP, aF, aE⟩ := at_T45 bJ.out (aL) aS aR
    have aJ := aE
    have aK := aF
    obtain rfl : aG = aW := (by injection bP)
    replace aF := hc_ HB.out aF
    replace aE := hc_ HB.out aE
    replace aS := eq_true aS
    replace aR := eq_true aR
    refine sr_ (fun w' => w'.cell? ⟨aC, 0, none⟩ = some (.string ((rd_T45 l0 aA).f0)) ∧ w'.cell? ⟨aC, 1, none⟩ = some (.string ((rd_T45 l0 aA).f1)) ∧ w'.cell? (aG.add (((aL)).toNat * 2)) = some (.string ((rd_T45 l0 (aL)).f0)) ∧ w'.cell? ⟨(aG.add (((aL)).toNat * 2)).block, (aG.add (((aL)).toNat * 2)).off + 1, none⟩ = some (.string ((rd_T45 l0 (aL)).f1))) [] impl_PairsOk.tab4 impl_PairsOk.bits4 ⟨(blk_cell aB.out 0).trans rfl, (blk_cell aB.out 1).trans rfl, (hc_ HB.out aK), (hc_ HB.out aJ)⟩ (fun hD hT hW => ?_)
    generalize bZ.drew = cJ at aB HB aF aE hD ⊢
    refine k_ 0 12 hT hW hD ?_
    refine oc_ 1 13 (bq_ 2 16) hT Try.func48 #[.agg #[.string ((rd_T45 l0 aA).f0), .string ((rd_T45 l0 aA).f1)]] ?_
    with_reducible refine (impl_PairOk.calls k1 ((rd_T45 l0 aA).f0) ((rd_T45 l0 aA).f1) true _ A5.out).mono ?_
    rintro e cI ⟨rfl, hb⟩
    refine ⟨_, rfl, ?_⟩
    replace aB := q_ (bb_ aB.out hb)
    replace HB := q_ (below_step (bs_ HB.out aD.out) hb)
    (try clear hb)
    (try clear bV)
    (try clear hk)
    (try clear hi)
    refine ⟨⟨(blk_cell aB.out 0).trans rfl, (blk_cell aB.out 1).trans rfl, (hc_ HB.out aK), (hc_ HB.out aJ)⟩, fun hD => nm_ ?_⟩
    refine p_ 2 14 hT ?_; refine p_ 3 15 hT ?_; refine p_ 4 16 hT ?_; refine p_ 5 17 hT ?_; refine p_ 6 18 hT ?_; refine p_ 7 19 hT ?_; refine p_ 9 21 hT ?_; refine p_ 10 22 hT ?_; refine p_ 11 23 hT ?_; refine p_ 12 24 hT ?_; refine p_ 13 25 hT ?_; refine k_ 8 20 hT hW hD ?_; refine k_ 14 26 hT hW hD ?_; refine p_ 15 27 hT ?_; refine p_ 16 28 hT ?_; refine p_ 17 29 hT ?_
    by_cases aT : ((Op.bytesLess (((rd_T45 l0 (aL)).f0).toList) (((rd_T45 l0 aA).f0).toList)) = true)
    ·
     have H := HZ.out
     try clear HZ
     rw [if_pos aT] at H
     have aQ : (Op.bytesLess (((rd_T45 l0 (aL)).f0).toList) (((rd_T45 l0 aA).f0).toList)) = true := aT
     clear aT
     have H' := Aside0.mk H
     clear H
     first | rw [aQ] | skip
     refine done_ (done_of hT.out (by kernel_rfl)) ?_
     try go_wp2
     go_roundg k1
     case measure => have := bK.out; omega
     case rel => exact ⟨(wrap64 (aA + 1)), rs_, H', ⟨by have := bK.out; omega⟩, ⟨bs_ HB.out aD.out⟩⟩
    have H := HZ.out
    try clear HZ
    rw [if_neg aT] at H
    have aQ : (Op.bytesLess (((rd_T45 l0 (aL)).f0).toList) (((rd_T45 l0 aA).f0).toList)) = false := by simpa using aT
    clear aT
    obtain rfl := Option.some.inj H
    first | rw [aQ] | skip
    refine done_ (done_of hT.out (by kernel_rfl)) ?_
    try go_wp2
    go_ret
    exact ⟨by first | rfl | (simp [errW_none, errW_some] <;> rfl) | (simp only [← aO]; first | rfl | (simp [errW_none, errW_some] <;> rfl)) | (simp [*, errW_none, errW_some] <;> rfl), bs_ HB.out aD.out⟩
   ·
    rw [if_neg c2] at H
    have bR := decide_eq_false c2
    clear c2
    obtain rfl := Option.some.inj H
    go_wp2
    go_ret
    exact ⟨rf_, be_ HB.out⟩
end Go.Proofs.Ytgmfhchhbidlnaa.P
