import Derived.Test.YtgmfhchhbidlnaaStr
import Derived.Test.YtgmfhchhbidlnaaPx0
import Derived.Test.YtgmfhchhbidlnaaPx1
import Derived.Test.YtgmfhchhbidlnaaPx8
import Derived.Test.YtgmfhchhbidlnaaPx10
import Derived.Test.YtgmfhchhbidlnaaPx15
import Derived.Test.YtgmfhchhbidlnaaPx16
namespace Go.Proofs.Ytgmfhchhbidlnaa.P
open Go.RowKit Go.Proofs.YtgmfhchhbidlnaaW.PrintWords Go.Proofs.YtgmfhchhbidlnaaW.PrintLast Go.Proofs.YtgmfhchhbidlnaaW.PrintMore
attribute [local go_sem] max2_int min2_int max_two min_two max_three min_three max_four min_four
set_option linter.unusedVariables false
set_option maxHeartbeats 8000000
set_option maxRecDepth 100000
set_option linter.unusedSimpArgs false
mutual
def spec_CheckBetween.j0 : Nat → ByteArray → ByteArray → ByteArray → List (S45) → Int → Bool → Int → Int → List (S52) → Option ((List (S45)) × Bool)
 | 0, _, _, _, _, _, _, _, _, _ => none
 | k + 1, x0, x1, x2, aE, aD, aJ, aC, aB, aA => if aJ = true then (some (aE, false)) else (spec_CheckBetween.l0 k x0 x1 x2 aE aD (([] : List (S45))) 0 aC aB aA)
def spec_CheckBetween.l0 : Nat → ByteArray → ByteArray → ByteArray → List (S45) → Int → List (S45) → Int → Int → Int → List (S52) → Option ((List (S45)) × Bool)
 | 0, _, _, _, _, _, _, _, _, _, _ => none
 | k + 1, x0, x1, x2, aE, aD, aG, aF, aC, aB, aA => if aF < aD then ((spec_l5Item.f k x0 aC aB aA aF).bind fun aI => (if aI = true then (if 0 ≤ aF then (if aF < (aA.length : Int) then ((spec_l3In.f ((rd_T52 aA aF).f0.f0) x1 x2).bind fun aH => (if aH = true then (if aG.length < 4398046511104 then (spec_CheckBetween.l0 k x0 x1 x2 aE aD (aG ++ [(⟨(rd_T52 aA aF).f0.f0, (rd_T52 aA aF).f0.f1⟩ : S45)]) (wrap64 (aF + 1)) aC aB aA) else (none)) else (spec_CheckBetween.l0 k x0 x1 x2 aE aD aG (wrap64 (aF + 1)) aC aB aA))) else (none)) else (none)) else (some (aE, false)))) else (if 0 < (aA.length : Int) then (if 0 ≤ (wrap64 (aD - 1)) then (if (wrap64 (aD - 1)) < (aA.length : Int) then (if ((Op.bytesLess (((rd_T52 aA 0).f0.f0).toList) x1.toList) = true) then (if x2.toList = ([] : List UInt8) then (if (wrap64 (aB + aD)) < aC then (some (aE, false)) else (some (aG, true))) else (if (Op.bytesLess (((rd_T52 aA (wrap64 (aD - 1))).f0.f0).toList) x2.toList) = true then (if (wrap64 (aB + aD)) < aC then (some (aE, false)) else (some (aG, true))) else (some (aG, true)))) else (if aB > 0 then (some (aE, false)) else (if x2.toList = ([] : List UInt8) then (if (wrap64 (aB + aD)) < aC then (some (aE, false)) else (some (aG, true))) else (if (Op.bytesLess (((rd_T52 aA (wrap64 (aD - 1))).f0.f0).toList) x2.toList) = true then (if (wrap64 (aB + aD)) < aC then (some (aE, false)) else (some (aG, true))) else (some (aG, true)))))) else (none)) else (none)) else (none))
end
def spec_CheckBetween.f (k : Nat) (a0 : ByteArray) (a1 : ByteArray) (a2 : ByteArray) (aC : Int) (aD : Int) (aA : List (S52)) : Option ((List (S45)) × Bool) := (some (([] : List (S45)) : List (S45))).bind fun aB => (if aC = 0 then (if (aA.length : Int) = 0 then (if aD = 0 then ((spec_l4Root.f k aB).bind fun aG => (some (aB, (a0.toList == aG.toList)))) else (some (aB, false))) else (some (aB, false))) else ((spec_l1In.f aC 1 60).bind fun aF => (if aF = true then (if (aA.length : Int) = 0 then (spec_CheckBetween.j0 k a0 a1 a2 aB (aA.length : Int) true aC aD aA) else ((spec_l1In.f aD 0 (wrap64 (aC - 1))).bind fun aE => (spec_CheckBetween.j0 k a0 a1 a2 aB (aA.length : Int) (!aE) aC aD aA))) else (spec_CheckBetween.j0 k a0 a1 a2 aB (aA.length : Int) true aC aD aA))))
theorem spec_CheckBetween.calls (k : Nat) (a0 : ByteArray) (a1 : ByteArray) (a2 : ByteArray) (aH : Int) (aI : Int) (aT : Option Addr) (aR : Nat) (aD : List (S52)) (r1 : List (S45)) (r2 : Bool) (w : World) (cE : Kd.C k52 w aT aD.length aD) (cF : aD.length ≤ aR) (h : spec_CheckBetween.f k a0 a1 a2 aH aI aD = some (r1, r2)) :
 Calls Try.prog 12 #[.string a0, .string a1, .string a2, .agg #[.int .i64 aH, .int .i64 aI, .slice aT aD.length aR]] w fun e w' => ∃ v0_ : Value, e = .returned (.tuple #[v0_, .bool r2]) ∧ Kd.R k45 45 w' w.heap.size (fun _ => True) v0_ r1 ∧ Below w.heap.size w w' := by
 have jB := Try.underlying27
 have jA := Try.underlying45
 have aQ := Aside0.mk cE
 have bU := Aside0.mk cF
 clear cE cF
 have HB := q_ (Below.refl w.heap.size w)
 have H := h
 clear h
 unfold spec_CheckBetween.f at H
 obtain ⟨bC, aN, H⟩ := by_ H
 by_cases c5 : aH = 0
 ·
  rw [if_pos c5] at H
  have hW := beq_iff_eq.mpr c5
  have hV := bne_eq_false_iff_eq.mpr c5
  clear c5
  by_cases c6 : (aD.length : Int) = 0
  rotate_left
  ·
   rw [if_neg c6] at H
   have hU := beq_eq_false_iff_ne.mpr c6
   have hT := bne_iff_ne.mpr c6
   have jD : ¬ (aD = []) := fun h_ => c6 (by rw [h_]; rfl)
   simp only [Option.some.injEq, Prod.mk.injEq] at H
   obtain ⟨rfl, rfl⟩ := H
   go_enter Try.func12, Try.ntmps12
   go_wp2_with (first | ((with_reducible refine gate_dst (N := 7) rfl ?_); refine box_event rfl (N := 7) rfl (cs := #[.int .i64 aH, .int .i64 aI, .slice aT aD.length aR]) (t := 27) hr_ ?_; intro aV hg jO hbox hb; have aA := q_ (hbox); have aC := ge_ hg (be_ HB.out); replace HB := q_ (below_step (be_ HB.out) hb); clear hb hbox hg) | ((with_reducible refine gate_dst (N := 16) rfl ?_); refine Kd.R_lit k45 _ 45 ?hg (N := 16) ?hd (xs := ([] : List (S45))) (inner := []) (ok := fun _ => True) (okp := fun _ => True) ?hr ?hp (fun _ hk => hk) trivial (Below.refl _ _) (Nat.le_refl _) (by simp) ?_; (case hd => rfl); (case hg => rfl); (case hr => first | (go_simp; done) | (go_simp; rfl)); (case hp => exact (Reps.none _ _)); intro aZ jN bG hb hg_ hnew_; clear hg_ hnew_; (first | rw [← aN.out] at bG | (simp only [Int.reduceToNat] at bG; rw [← aN.out] at bG)); have aM := q_ (Kd.R_lower bG (below_size (bs_ HB.out aC.out))); replace aA := q_ (bb_ aA.out hb); replace HB := q_ (below_step (bs_ HB.out aC.out) hb); clear hb bG; obtain ⟨gI, gH, gG, eV, eU, eT⟩ := bx3_ aA.out))
   go_ret2
   exact ⟨_, rf_, kr_ aM.out, bs_ HB.out aC.out⟩
  rw [if_pos c6] at H
  have hU := beq_iff_eq.mpr c6
  have hT := bne_eq_false_iff_eq.mpr c6
  clear c6
  by_cases c7 : aI = 0
  rotate_left
  ·
   rw [if_neg c7] at H
   have hP := beq_eq_false_iff_ne.mpr c7
   have hO := bne_iff_ne.mpr c7
   simp only [Option.some.injEq, Prod.mk.injEq] at H
   obtain ⟨rfl, rfl⟩ := H
   go_enter Try.func12, Try.ntmps12
   go_wp2_with (first | ((with_reducible refine gate_dst (N := 7) rfl ?_); refine box_event rfl (N := 7) rfl (cs := #[.int .i64 aH, .int .i64 aI, .slice aT aD.length aR]) (t := 27) hr_ ?_; intro aV hg jP hbox hb; have aA := q_ (hbox); have aC := ge_ hg (be_ HB.out); replace HB := q_ (below_step (be_ HB.out) hb); clear hb hbox hg) | ((with_reducible refine gate_dst (N := 16) rfl ?_); refine Kd.R_lit k45 _ 45 ?hg (N := 16) ?hd (xs := ([] : List (S45))) (inner := []) (ok := fun _ => True) (okp := fun _ => True) ?hr ?hp (fun _ hk => hk) trivial (Below.refl _ _) (Nat.le_refl _) (by simp) ?_; (case hd => rfl); (case hg => rfl); (case hr => first | (go_simp; done) | (go_simp; rfl)); (case hp => exact (Reps.none _ _)); intro aZ w16 bH hb hg_ hnew_; clear hg_ hnew_; (first | rw [← aN.out] at bH | (simp only [Int.reduceToNat] at bH; rw [← aN.out] at bH)); have aM := q_ (Kd.R_lower bH (below_size (bs_ HB.out aC.out))); replace aA := q_ (bb_ aA.out hb); replace HB := q_ (below_step (bs_ HB.out aC.out) hb); clear hb bH; obtain ⟨gL, gK, gJ, eY, eX, eW⟩ := bx3_ aA.out))
   go_ret2
   exact ⟨_, rf_, kr_ aM.out, bs_ HB.out aC.out⟩
  rw [if_pos c7] at H
  have hP := beq_iff_eq.mpr c7
  have hO := bne_eq_false_iff_eq.mpr c7
  clear c7
  obtain ⟨hF, A8, H⟩ := bo_ H
  simp only [Option.some.injEq, Prod.mk.injEq] at H
  obtain ⟨rfl, rfl⟩ := H
  go_enter Try.func12, Try.ntmps12
  go_wp2_with (first | ((with_reducible refine gate_dst (N := 7) rfl ?_); refine box_event rfl (N := 7) rfl (cs := #[.int .i64 aH, .int .i64 aI, .slice aT aD.length aR]) (t := 27) hr_ ?_; intro aV hg w9 hbox hb; have aA := q_ (hbox); have aC := ge_ hg (be_ HB.out); replace HB := q_ (below_step (be_ HB.out) hb); clear hb hbox hg) | ((with_reducible refine gate_dst (N := 16) rfl ?_); refine Kd.R_lit k45 _ 45 ?hg (N := 16) ?hd (xs := ([] : List (S45))) (inner := []) (ok := fun _ => True) (okp := fun _ => True) ?hr ?hp (fun _ hk => hk) trivial (Below.refl _ _) (Nat.le_refl _) (by simp) ?_; (case hd => rfl); (case hg => rfl); (case hr => first | (go_simp; done) | (go_simp; rfl)); (case hp => exact (Reps.none _ _)); intro aZ jR bI hb hg_ hnew_; clear hg_ hnew_; (first | rw [← aN.out] at bI | (simp only [Int.reduceToNat] at bI; rw [← aN.out] at bI)); have aM := q_ (Kd.R_lower bI (below_size (bs_ HB.out aC.out))); replace aA := q_ (bb_ aA.out hb); replace HB := q_ (below_step (bs_ HB.out aC.out) hb); clear hb bI; obtain ⟨gO, gN, gM, fB, fA, eZ⟩ := bx3_ aA.out; obtain ⟨jE, jC, hK⟩ := Kd.R_slice aM.out; subst hK) | (go_at_call 27; (with_reducible refine (spec_l4Root.calls k _ _ bC hF _ ?side1 ?side2 A8.out).mono ?_); (case side1 => exact kc_ (Kd.R_reads' aM.out).2.2); (case side2 => exact (Kd.R_reads' aM.out).2.1); rintro e jQ ⟨rfl, hb⟩; replace aM := q_ (Kd.R_below (kr_ aM.out) hb); replace aA := q_ (bb_ aA.out hb); replace HB := q_ (below_step (bs_ HB.out aC.out) hb); (try clear hb)))
  go_ret2
  exact ⟨_, rf_, kr_ aM.out, bs_ HB.out aC.out⟩
 ·
  rw [if_neg c5] at H
  have hW := beq_eq_false_iff_ne.mpr c5
  have hV := bne_iff_ne.mpr c5
  have cM := Aside0.mk H
  clear H
  go_enter Try.func12, Try.ntmps12
  go_upto_region 5 with (first | ((with_reducible refine gate_dst (N := 7) rfl ?_); refine box_event rfl (N := 7) rfl (cs := #[.int .i64 aH, .int .i64 aI, .slice aT aD.length aR]) (t := 27) hr_ ?_; intro aV hg jM hbox hb; have aA := q_ (hbox); have aC := ge_ hg (be_ HB.out); replace HB := q_ (below_step (be_ HB.out) hb); clear hb hbox hg) | ((with_reducible refine gate_dst (N := 16) rfl ?_); refine Kd.R_lit k45 _ 45 ?hg (N := 16) ?hd (xs := ([] : List (S45))) (inner := []) (ok := fun _ => True) (okp := fun _ => True) ?hr ?hp (fun _ hk => hk) trivial (Below.refl _ _) (Nat.le_refl _) (by simp) ?_; (case hd => rfl); (case hg => rfl); (case hr => first | (go_simp; done) | (go_simp; rfl)); (case hp => exact (Reps.none _ _)); intro aZ jL bF hb hg_ hnew_; clear hg_ hnew_; (first | rw [← aN.out] at bF | (simp only [Int.reduceToNat] at bF; rw [← aN.out] at bF)); have aM := q_ (Kd.R_lower bF (below_size (bs_ HB.out aC.out))); replace aA := q_ (bb_ aA.out hb); replace HB := q_ (below_step (bs_ HB.out aC.out) hb); clear hb bF; obtain ⟨gF, gE, gD, eS, eR, eQ⟩ := bx3_ aA.out))
  (try simp only [Act.put, sa_, sz_, ss_])
  go_cut [53] (fun iT wc => ∃ (kq : Nat) (aW : Bool), iT = .bool aW ∧ Aside0 (spec_CheckBetween.j0 kq a0 a1 a2 bC (aD.length : Int) aW aH aI aD = some (r1, r2)) ∧ Aside0 (kq ≤ k) ∧ Aside0 (Kd.R k45 45 wc w.heap.size (fun _ => True) aZ bC) ∧ Aside0 (wc.heap[aV]? = some (.cells #[.int .i64 aH, .int .i64 aI, (.slice aT aD.length aR)] 27 (0, 0))) ∧ Aside0 (Below w.heap.size w wc))
  case first =>
   have H := cM.out
   clear cM
   obtain ⟨hE, iB, H⟩ := bo_ H
   by_cases gS : hE = true
   rotate_left
   ·
    replace gS := Bool.eq_false_iff.mpr gS
    subst gS
    rw [if_neg (show ¬ (false = true) by decide)] at H
    have H' := Aside0.mk H
    clear H
    obtain ⟨fW, fV, fU, eJ, eI, eH⟩ := bx3_ aA.out
    go_wp2_with (first | ((with_reducible refine gate_callee (f := 28) rfl ?_); refine gl_ (some 39) Try.func28 #[.int .i64 aH, .int .i64 1, .int .i64 60] rfl al_ ?_; (with_reducible refine (spec_l1In.calls aH 1 60 false _ iB.out).mono ?_); rintro e w' ⟨rfl, ⟨nd, rfl⟩⟩; refine ⟨_, rfl, ?_⟩))
    go_meet
    case rel => exact ⟨_, (true), rs_, H', ⟨by first | omega | exact Nat.le_refl _⟩, ⟨kr_ aM.out⟩, ⟨bk_ aA.out⟩, ⟨bs_ HB.out aC.out⟩⟩
   subst gS
   rw [if_pos rfl] at H
   by_cases cG : (aD.length : Int) = 0
   ·
    rw [if_pos cG] at H
    have aY := beq_iff_eq.mpr cG
    have dC := bne_eq_false_iff_eq.mpr cG
    clear cG
    (first | rw [aY] | (simp only [i64_w, i32_w]; rw [aY]) | skip)
    have H' := Aside0.mk H
    clear H
    obtain ⟨gC, gB, gA, eP, eO, eN⟩ := bx3_ aA.out
    go_wp2_with (first | ((with_reducible refine gate_callee (f := 28) rfl ?_); refine gl_ (some 39) Try.func28 #[.int .i64 aH, .int .i64 1, .int .i64 60] rfl al_ ?_; (with_reducible refine (spec_l1In.calls aH 1 60 true _ iB.out).mono ?_); rintro e w' ⟨rfl, ⟨nd, rfl⟩⟩; refine ⟨_, rfl, ?_⟩))
    go_meet
    case rel => exact ⟨_, (true), rs_, H', ⟨by first | omega | exact Nat.le_refl _⟩, ⟨kr_ aM.out⟩, ⟨bk_ aA.out⟩, ⟨bs_ HB.out aC.out⟩⟩
   rw [if_neg cG] at H
   have aY := beq_eq_false_iff_ne.mpr cG
   have dC := bne_iff_ne.mpr cG
   have iP : ¬ (aD = []) := fun h_ => cG (by rw [h_]; rfl)
   (first | rw [aY] | (simp only [i64_w, i32_w]; rw [aY]) | skip)
   obtain ⟨cX, jF, H⟩ := bo_ H
   have H' := Aside0.mk H
   clear H
   obtain ⟨fZ, fY, fX, eM, eL, eK⟩ := bx3_ aA.out
   go_wp2_with (first | ((with_reducible refine gate_callee (f := 28) rfl ?_); refine gl_ (some 39) Try.func28 #[.int .i64 aH, .int .i64 1, .int .i64 60] rfl al_ ?_; (with_reducible refine (spec_l1In.calls aH 1 60 true _ iB.out).mono ?_); rintro e w' ⟨rfl, ⟨nd, rfl⟩⟩; refine ⟨_, rfl, ?_⟩) | (go_at_call 28; (with_reducible refine (spec_l1In.calls aI 0 (wrap64 (aH - 1)) cX _ jF.out).mono ?_); rintro e w' ⟨rfl, ⟨nd, rfl⟩⟩))
   go_meet
   case rel => exact ⟨_, (!cX), rs_, H', ⟨by first | omega | exact Nat.le_refl _⟩, ⟨kr_ aM.out⟩, ⟨bk_ aA.out⟩, ⟨bs_ HB.out aC.out⟩⟩
  case rest =>
   clear cM
   obtain ⟨kq, aW, rfl, HA, cC, aG, aA, HB⟩ := hcut
   cases kq with
   | zero => exact absurd HA.out (by simp [spec_CheckBetween.j0])
   | succ cY =>
    have H := HA.out
    clear HA
    simp only [spec_CheckBetween.j0] at H
    by_cases gR : aW = true
    ·
     subst gR
     rw [if_pos rfl] at H
     simp only [Option.some.injEq, Prod.mk.injEq] at H
     obtain ⟨rfl, rfl⟩ := H
     go_wp2
     go_ret2
     exact ⟨_, rf_, kr_ aG.out, bs_ HB.out aC.out⟩
    ·
     replace gR := Bool.eq_false_iff.mpr gR
     subst gR
     rw [if_neg (show ¬ (false = true) by decide)] at H
     obtain ⟨hB, bE⟩ : ∃ y_ : List (S45), y_ = (([] : List (S45))) := ⟨_, rfl⟩
     rw [← bE] at H
     have cH := Aside0.mk bE
     clear bE
     have H' := Aside0.mk H
     clear H
     go_wp2_with (first | ((with_reducible refine gate_dst (N := 55) rfl ?_); refine Kd.R_lit k45 _ 45 ?hg (N := 55) ?hd (xs := ([] : List (S45))) (inner := []) (ok := fun _ => True) (okp := fun _ => True) ?hr ?hp (fun _ hk => hk) trivial (Below.refl _ _) (Nat.le_refl _) (by simp) ?_; (case hd => rfl); (case hg => rfl); (case hr => first | (go_simp; done) | (go_simp; rfl)); (case hp => exact (Reps.none _ _)); intro iS jK bB hb hg_ hnew_; clear hg_ hnew_; (first | rw [← cH.out] at bB | (simp only [Int.reduceToNat] at bB; rw [← cH.out] at bB)); have dJ := q_ (Kd.R_lower (Kd.R_new' bB (Kd.R_lt (kr_ aG.out))) (below_size (bs_ HB.out aC.out))); replace aG := q_ (Kd.R_elder' (kr_ aG.out) (Kd.R_base bB) hb); replace aA := q_ (bb_ aA.out hb); replace HB := q_ (below_step (bs_ HB.out aC.out) hb); clear hb bB))
     go_loopg [12, 13] cY (fun kq iC iU w' => ∃ (aU : List (S45)) (aE : Int), iU = .int .i64 aE ∧ Aside0 (spec_CheckBetween.l0 kq a0 a1 a2 bC (aD.length : Int) aU aE aH aI aD = some (r1, r2)) ∧ Aside0 (kq ≤ cY) ∧ Aside0 (Kd.R k45 45 w' w.heap.size (fun k_ => some k_ ≠ (iC : Value).ownBlock) aZ bC) ∧ Aside0 (Kd.R k45 45 w' w.heap.size (fun k_ => some k_ ≠ (aZ : Value).ownBlock) iC aU) ∧ Aside0 (w'.heap[aV]? = some (.cells #[.int .i64 aH, .int .i64 aI, (.slice aT aD.length aR)] 27 (0, 0))) ∧ Aside0 (Below w.heap.size w w'))
     case atStart => exact ⟨(hB), (0), rs_, H', ⟨Nat.le_refl _⟩, ⟨by (with_reducible repeat (first | apply Kd.R_alloc | apply Kd.R_drewN | apply Kd.R_drew)); exact Kd.R_mono aG.out (fun _ hk => hk.2)⟩, ⟨by (with_reducible repeat (first | apply Kd.R_alloc | apply Kd.R_drewN | apply Kd.R_drew)); exact Kd.R_mono dJ.out (fun _ hk => hk.2)⟩, ⟨bk_ aA.out⟩, ⟨bs_ HB.out aC.out⟩⟩
     case round =>
      clear H'
      obtain ⟨aU, aE, rfl, HA, gW, aG, aJ, aA, HB⟩ := hrel
      cases gk with
      | zero => exact absurd HA.out (by simp [spec_CheckBetween.l0])
      | succ k2 =>
       have H := HA.out
       clear HA
       simp only [spec_CheckBetween.l0] at H
       by_cases cW : aE < (aD.length : Int)
       ·
        rw [if_pos cW] at H
        have dB := decide_eq_true cW
        clear cW
        obtain ⟨hD, iA, H⟩ := bo_ H
        by_cases gQ : hD = true
        rotate_left
        ·
         replace gQ := Bool.eq_false_iff.mpr gQ
         subst gQ
         rw [if_neg (show ¬ (false = true) by decide)] at H
         simp only [Option.some.injEq, Prod.mk.injEq] at H
         obtain ⟨rfl, rfl⟩ := H
         obtain ⟨fH, fG, fF, dU, dT, dS⟩ := bx3_ aA.out
         go_wp2_with (first | ((with_reducible refine gate_callee (f := 29) rfl ?_); refine gl_ (some 64) Try.func29 #[.string a0, .agg #[.int .i64 aH, .int .i64 aI, .slice aT aD.length aR], .int .i64 aE] rfl al_ ?_; (with_reducible refine (spec_l5Item.calls k2 a0 aH aI _ _ aD aE false _ ?side1 ?side2 iA.out).mono ?_); (case side1 => exact kc_ (Kd.C_below aQ.out HB.out)); (case side2 => exact bU.out); rintro e jG ⟨rfl, hb⟩; refine ⟨_, rfl, ?_⟩; replace aG := q_ (Kd.R_below (kr_ aG.out) hb); replace aJ := q_ (Kd.R_below (kr_ aJ.out) hb); replace aA := q_ (bb_ aA.out hb); replace HB := q_ (below_step (bs_ HB.out aC.out) hb); (try clear hb)))
         go_ret2
         exact ⟨_, rf_, by (with_reducible repeat (first | apply Kd.R_alloc | apply Kd.R_drewN | apply Kd.R_drew)); exact Kd.R_mono aG.out (fun _ hk => trivial), bs_ HB.out aC.out⟩
        subst gQ
        rw [if_pos rfl] at H
        obtain ⟨iO, H⟩ := id_ H
        obtain ⟨iN, H⟩ := id_ H
        obtain ⟨hC, iQ, H⟩ := bo_ H
        by_cases gP : hC = true
        rotate_left
        ·
         replace gP := Bool.eq_false_iff.mpr gP
         subst gP
         rw [if_neg (show ¬ (false = true) by decide)] at H
         have H' := Aside0.mk H
         clear H
         obtain ⟨fN, fM, fL, eA, dZ, dY⟩ := bx3_ aA.out
         go_wp2_with (first | ((with_reducible refine gate_callee (f := 29) rfl ?_); refine gl_ (some 64) Try.func29 #[.string a0, .agg #[.int .i64 aH, .int .i64 aI, .slice aT aD.length aR], .int .i64 aE] rfl al_ ?_; (with_reducible refine (spec_l5Item.calls k2 a0 aH aI _ _ aD aE true _ ?side1 ?side2 iA.out).mono ?_); (case side1 => exact kc_ (Kd.C_below aQ.out HB.out)); (case side2 => exact bU.out); rintro e jH ⟨rfl, hb⟩; refine ⟨_, rfl, ?_⟩; replace aG := q_ (Kd.R_below (kr_ aG.out) hb); replace aJ := q_ (Kd.R_below (kr_ aJ.out) hb); replace aA := q_ (bb_ aA.out hb); replace HB := q_ (below_step (bs_ HB.out aC.out) hb); (try clear hb); obtain ⟨fK, fJ, fI, dX, dW, dV⟩ := bx3_ aA.out; obtain ⟨bT, cN, cJ, cI, bX, bW, bA, cD, cB, hI, hG⟩ := at3_ HB.out (at_T52 aQ.out aE); cases cI) | ((with_reducible refine gate_callee (f := 30) rfl ?_); refine gl_ (some 76) Try.func30 #[.string ((rd_T52 aD aE).f0.f0), .string a1, .string a2] rfl al_ ?_; (with_reducible refine (spec_l3In.calls ((rd_T52 aD aE).f0.f0) a1 a2 false _ iQ.out).mono ?_); rintro e w' ⟨rfl, ⟨nd, rfl⟩⟩; refine ⟨_, rfl, ?_⟩))
         go_roundg k2
         case measure => have := cC.out; have := gW.out; omega
         case rel => exact ⟨(aU), (wrap64 (aE + 1)), rs_, H', ⟨by have := cC.out; have := gW.out; omega⟩, ⟨kr_ aG.out⟩, ⟨kr_ aJ.out⟩, ⟨bk_ aA.out⟩, ⟨bs_ HB.out aC.out⟩⟩
        subst gP
        rw [if_pos rfl] at H
        obtain ⟨dH, H⟩ := ia_ H
        obtain ⟨hA, bD⟩ : ∃ y_ : List (S45), y_ = (aU ++ [(⟨(rd_T52 aD aE).f0.f0, (rd_T52 aD aE).f0.f1⟩ : S45)]) := ⟨_, rfl⟩
        rw [← bD] at H
        have dG := Aside0.mk bD
        clear bD
        have H' := Aside0.mk H
        clear H
        obtain ⟨fT, fS, fR, eG, eF, eE⟩ := bx3_ aA.out
        go_wp2_with (first | ((with_reducible refine gate_callee (f := 29) rfl ?_); refine gl_ (some 64) Try.func29 #[.string a0, .agg #[.int .i64 aH, .int .i64 aI, .slice aT aD.length aR], .int .i64 aE] rfl al_ ?_; (with_reducible refine (spec_l5Item.calls k2 a0 aH aI _ _ aD aE true _ ?side1 ?side2 iA.out).mono ?_); (case side1 => exact kc_ (Kd.C_below aQ.out HB.out)); (case side2 => exact bU.out); rintro e jJ ⟨rfl, hb⟩; refine ⟨_, rfl, ?_⟩; replace aG := q_ (Kd.R_below (kr_ aG.out) hb); replace aJ := q_ (Kd.R_below (kr_ aJ.out) hb); replace aA := q_ (bb_ aA.out hb); replace HB := q_ (below_step (bs_ HB.out aC.out) hb); (try clear hb); obtain ⟨fQ, fP, fO, eD, eC, eB⟩ := bx3_ aA.out; obtain ⟨bT, cN, cJ, cI, bX, bW, bA, cD, cB, hI, hG⟩ := at3_ HB.out (at_T52 aQ.out aE); cases cI) | ((with_reducible refine gate_callee (f := 30) rfl ?_); refine gl_ (some 76) Try.func30 #[.string ((rd_T52 aD aE).f0.f0), .string a1, .string a2] rfl al_ ?_; (with_reducible refine (spec_l3In.calls ((rd_T52 aD aE).f0.f0) a1 a2 true _ iQ.out).mono ?_); rintro e w' ⟨rfl, ⟨nd, rfl⟩⟩; refine ⟨_, rfl, ?_⟩; obtain ⟨dD, hX, hQ, hL, dL, dK, bV, gX, gT, iX, iV⟩ := at3_ HB.out (at_T52 aQ.out aE); obtain rfl : bT = dD := (by injection hL); have ea_ := Option.some.inj (bA.symm.trans bV); injection ea_ with ea_ en_ ec_; subst ea_; subst ec_; clear en_) | ((with_reducible refine gate_builtin (b := .append) (xs := #[.tmp 77, .tmp 84]) rfl ?_); at_builtin; refine Kd.R_append k45 (w0 := w) w.heap.size rfl (.tmp 77) (.tmp 84) 24 45 (.agg #[(.string ⟨#[]⟩), (.string ⟨#[]⟩)]) 32 rfl Try.underlying24 info45 rfl (by decide) (by omega) u12 aU (⟨(rd_T52 aD aE).f0.f0, (rd_T52 aD aE).f0.f1⟩ : S45) [.string ((rd_T52 aD aE).f0.f0), .string ((rd_T52 aD aE).f0.f1)] (fun k_ => some k_ ≠ (aZ : Value).ownBlock) (fun _ => False) rfl rfl ?aP (fun _ hk => hk.elim) ?aF ?aO ?aB ?aS ?aL ?_; (case aP => exact k45_mkM _ _ _ (⟨(rd_T52 aD aE).f0.f0, (rd_T52 aD aE).f0.f1⟩ : S45)); (case aB => exact (bs_ HB.out aC.out)); (case aF => exact (fun k_ hk => Kd.fresh' (Kd.R_lt (kr_ aG.out)) k_ hk)); (case aO => exact (kr_ aJ.out)); (case aS => exact (below_size (bs_ HB.out aC.out))); (case aL => have := dH.out; omega); intro iR jI ho hb hg hat; rw [← dG.out] at ho; have iH := q_ (Kd.R_after (ok := (fun _ => True)) (by (with_reducible repeat (first | apply Kd.R_alloc | apply Kd.R_drewN | apply Kd.R_drew)); exact Kd.R_mono aG.out (fun _ hk => ⟨trivial, hk⟩)) hg hat); have iG := q_ (blk_grown (g := aV) (o := .cells #[.int .i64 aH, .int .i64 aI, .slice (some bT) aD.length aR] 27 (0, 0)) (bk_ aA.out) hg (Kd.R_ne aJ.out aA.out (by decide))); have iF := q_ (hb); have iE := q_ (ho); clear aG; clear aA; clear HB; clear aJ; have aG := iH; have aA := iG; have HB := iF; have dI := iE; clear iH iG iF iE; clear ho hb hg hat))
        go_roundg k2
        case measure => have := cC.out; have := gW.out; omega
        case rel => exact ⟨(hA), (wrap64 (aE + 1)), rs_, H', ⟨by have := cC.out; have := gW.out; omega⟩, ⟨by (with_reducible repeat (first | apply Kd.R_alloc | apply Kd.R_drewN | apply Kd.R_drew)); exact Kd.R_mono aG.out (fun _ hk => hk.2)⟩, ⟨kr_ dI.out⟩, ⟨bk_ aA.out⟩, ⟨bs_ HB.out aC.out⟩⟩
       ·
        rw [if_neg cW] at H
        have dB := decide_eq_false cW
        clear cW
        obtain ⟨iM, H⟩ := ip_ H
        have iL : decide (0 < (aD.length : Int)) = true := decide_eq_true iM
        have iK : decide (0 < aD.length) = true := decide_eq_true (by omega)
        clear iM
        obtain ⟨aX, aK⟩ : ∃ j_ : Int, (wrap64 ((aD.length : Int) - 1)) = j_ := ⟨_, rfl⟩
        first | rw [aK] at H | simp only [aK] at H
        have hJ : (IntKind.i64.wrap ((aD.length : Int) - 1)) = aX := (i64_w _).trans aK
        obtain ⟨iJ, H⟩ := id_ H
        obtain ⟨iI, H⟩ := id_ H
        have HZ := Aside0.mk H
        clear H
        obtain ⟨fE, fD, fC, dR, dQ, dP⟩ := bx3_ aA.out
        obtain ⟨dF, hZ, hS, hN, cA, bZ, bY, gZ, gV, iZ, hH⟩ := at3_ HB.out (at_T52 aQ.out 0)
        cases hN
        have iD : (0 < aD.length) = True := eq_true (by have := of_eq_true hH; omega)
        (try simp only [Int.toNat_zero, Nat.zero_mul, Addr.add_zero'] at cA)
        (try simp only [Int.toNat_zero, Nat.zero_mul, Addr.add_zero'] at bZ)
        (try simp only [Int.toNat_zero, Nat.zero_mul, Addr.add_zero'] at bY)
        obtain ⟨dE, hY, hR, hM, dO, dN, dM, gY, gU, iY, iW⟩ := at3_ HB.out (at_T52 aQ.out (aX))
        obtain rfl : dF = dE := (by injection hM)
        by_cases cV : ((Op.bytesLess (((rd_T52 aD 0).f0.f0).toList) a1.toList) = true)
        ·
         have H := HZ.out
         try clear HZ
         rw [if_pos cV] at H
         have bS : (Op.bytesLess (((rd_T52 aD 0).f0.f0).toList) a1.toList) = true := cV
         clear cV
         have HZ := Aside0.mk H
         clear H
         first | rw [bS] | skip
         by_cases cL : a2.toList = ([] : List UInt8)
         ·
          have H := HZ.out
          try clear HZ
          rw [if_pos cL] at H
          have bR := beq_iff_eq.mpr cL
          have dA := bne_eq_false_iff_eq.mpr cL
          clear cL
          have HZ := Aside0.mk H
          clear H
          first | rw [bR] | skip
          by_cases cU : (wrap64 (aI + (aD.length : Int))) < aH
          ·
           have H := HZ.out
           try clear HZ
           rw [if_pos cU] at H
           have bQ := decide_eq_true cU
           clear cU
           simp only [Option.some.injEq, Prod.mk.injEq] at H
           obtain ⟨rfl, rfl⟩ := H
           first | rw [bQ] | skip
           go_wp2
           go_ret2
           exact ⟨_, by first | rfl | (simp [errW_none, errW_some] <;> rfl) | (simp only [← aK]; first | rfl | (simp [errW_none, errW_some] <;> rfl)) | (simp [*, errW_none, errW_some] <;> rfl), by (with_reducible repeat (first | apply Kd.R_alloc | apply Kd.R_drewN | apply Kd.R_drew)); exact Kd.R_mono aG.out (fun _ hk => trivial), bs_ HB.out aC.out⟩
          have H := HZ.out
          try clear HZ
          rw [if_neg cU] at H
          have bQ := decide_eq_false cU
          clear cU
          simp only [Option.some.injEq, Prod.mk.injEq] at H
          obtain ⟨rfl, rfl⟩ := H
          first | rw [bQ] | skip
          go_wp2
          go_ret2
          exact ⟨_, by first | rfl | (simp [errW_none, errW_some] <;> rfl) | (simp only [← aK]; first | rfl | (simp [errW_none, errW_some] <;> rfl)) | (simp [*, errW_none, errW_some] <;> rfl), by (with_reducible repeat (first | apply Kd.R_alloc | apply Kd.R_drewN | apply Kd.R_drew)); exact Kd.R_mono aJ.out (fun _ hk => trivial), bs_ HB.out aC.out⟩
         have H := HZ.out
         try clear HZ
         rw [if_neg cL] at H
         have bR := beq_eq_false_iff_ne.mpr cL
         have dA := bne_iff_ne.mpr cL
         have HZ := Aside0.mk H
         clear H
         first | rw [bR] | skip
         by_cases cT : (Op.bytesLess (((rd_T52 aD (aX)).f0.f0).toList) a2.toList) = true
         rotate_left
         ·
          have H := HZ.out
          try clear HZ
          rw [if_neg cT] at H
          have bP : (Op.bytesLess (((rd_T52 aD (aX)).f0.f0).toList) a2.toList) = false := by simpa using cT
          clear cT
          simp only [Option.some.injEq, Prod.mk.injEq] at H
          obtain ⟨rfl, rfl⟩ := H
          first | rw [bP] | skip
          go_wp2
          go_ret2
          exact ⟨_, by first | rfl | (simp [errW_none, errW_some] <;> rfl) | (simp only [← aK]; first | rfl | (simp [errW_none, errW_some] <;> rfl)) | (simp [*, errW_none, errW_some] <;> rfl), by (with_reducible repeat (first | apply Kd.R_alloc | apply Kd.R_drewN | apply Kd.R_drew)); exact Kd.R_mono aJ.out (fun _ hk => trivial), bs_ HB.out aC.out⟩
         have H := HZ.out
         try clear HZ
         rw [if_pos cT] at H
         have bP : (Op.bytesLess (((rd_T52 aD (aX)).f0.f0).toList) a2.toList) = true := cT
         clear cT
         have HZ := Aside0.mk H
         clear H
         first | rw [bP] | skip
         by_cases cS : (wrap64 (aI + (aD.length : Int))) < aH
         ·
          have H := HZ.out
          try clear HZ
          rw [if_pos cS] at H
          have bO := decide_eq_true cS
          clear cS
          simp only [Option.some.injEq, Prod.mk.injEq] at H
          obtain ⟨rfl, rfl⟩ := H
          first | rw [bO] | skip
          go_wp2
          go_ret2
          exact ⟨_, by first | rfl | (simp [errW_none, errW_some] <;> rfl) | (simp only [← aK]; first | rfl | (simp [errW_none, errW_some] <;> rfl)) | (simp [*, errW_none, errW_some] <;> rfl), by (with_reducible repeat (first | apply Kd.R_alloc | apply Kd.R_drewN | apply Kd.R_drew)); exact Kd.R_mono aG.out (fun _ hk => trivial), bs_ HB.out aC.out⟩
         have H := HZ.out
         try clear HZ
         rw [if_neg cS] at H
         have bO := decide_eq_false cS
         clear cS
         simp only [Option.some.injEq, Prod.mk.injEq] at H
         obtain ⟨rfl, rfl⟩ := H
         first | rw [bO] | skip
         go_wp2
         go_ret2
         exact ⟨_, by first | rfl | (simp [errW_none, errW_some] <;> rfl) | (simp only [← aK]; first | rfl | (simp [errW_none, errW_some] <;> rfl)) | (simp [*, errW_none, errW_some] <;> rfl), by (with_reducible repeat (first | apply Kd.R_alloc | apply Kd.R_drewN | apply Kd.R_drew)); exact Kd.R_mono aJ.out (fun _ hk => trivial), bs_ HB.out aC.out⟩
        ·
         have H := HZ.out
         try clear HZ
         rw [if_neg cV] at H
         have bS : (Op.bytesLess (((rd_T52 aD 0).f0.f0).toList) a1.toList) = false := by simpa using cV
         clear cV
         have HZ := Aside0.mk H
         clear H
         first | rw [bS] | skip
         by_cases cR : aI > 0
         ·
          have H := HZ.out
          try clear HZ
          rw [if_pos cR] at H
          have bN : decide (0 < aI) = true := decide_eq_true cR
          clear cR
          simp only [Option.some.injEq, Prod.mk.injEq] at H
          obtain ⟨rfl, rfl⟩ := H
          first | rw [bN] | skip
          go_wp2
          go_ret2
          exact ⟨_, by first | rfl | (simp [errW_none, errW_some] <;> rfl) | (simp only [← aK]; first | rfl | (simp [errW_none, errW_some] <;> rfl)) | (simp [*, errW_none, errW_some] <;> rfl), by (with_reducible repeat (first | apply Kd.R_alloc | apply Kd.R_drewN | apply Kd.R_drew)); exact Kd.R_mono aG.out (fun _ hk => trivial), bs_ HB.out aC.out⟩
         ·
          have H := HZ.out
          try clear HZ
          rw [if_neg cR] at H
          have bN : decide (0 < aI) = false := decide_eq_false cR
          clear cR
          have HZ := Aside0.mk H
          clear H
          first | rw [bN] | skip
          by_cases cK : a2.toList = ([] : List UInt8)
          ·
           have H := HZ.out
           try clear HZ
           rw [if_pos cK] at H
           have bM := beq_iff_eq.mpr cK
           have cZ := bne_eq_false_iff_eq.mpr cK
           clear cK
           have HZ := Aside0.mk H
           clear H
           first | rw [bM] | skip
           by_cases cQ : (wrap64 (aI + (aD.length : Int))) < aH
           ·
            have H := HZ.out
            try clear HZ
            rw [if_pos cQ] at H
            have bL := decide_eq_true cQ
            clear cQ
            simp only [Option.some.injEq, Prod.mk.injEq] at H
            obtain ⟨rfl, rfl⟩ := H
            first | rw [bL] | skip
            go_wp2
            go_ret2
            exact ⟨_, by first | rfl | (simp [errW_none, errW_some] <;> rfl) | (simp only [← aK]; first | rfl | (simp [errW_none, errW_some] <;> rfl)) | (simp [*, errW_none, errW_some] <;> rfl), by (with_reducible repeat (first | apply Kd.R_alloc | apply Kd.R_drewN | apply Kd.R_drew)); exact Kd.R_mono aG.out (fun _ hk => trivial), bs_ HB.out aC.out⟩
           have H := HZ.out
           try clear HZ
           rw [if_neg cQ] at H
           have bL := decide_eq_false cQ
           clear cQ
           simp only [Option.some.injEq, Prod.mk.injEq] at H
           obtain ⟨rfl, rfl⟩ := H
           first | rw [bL] | skip
           go_wp2
           go_ret2
           exact ⟨_, by first | rfl | (simp [errW_none, errW_some] <;> rfl) | (simp only [← aK]; first | rfl | (simp [errW_none, errW_some] <;> rfl)) | (simp [*, errW_none, errW_some] <;> rfl), by (with_reducible repeat (first | apply Kd.R_alloc | apply Kd.R_drewN | apply Kd.R_drew)); exact Kd.R_mono aJ.out (fun _ hk => trivial), bs_ HB.out aC.out⟩
          ·
           have H := HZ.out
           try clear HZ
           rw [if_neg cK] at H
           have bM := beq_eq_false_iff_ne.mpr cK
           have cZ := bne_iff_ne.mpr cK
           have HZ := Aside0.mk H
           clear H
           first | rw [bM] | skip
           by_cases cP : (Op.bytesLess (((rd_T52 aD (aX)).f0.f0).toList) a2.toList) = true
           ·
            have H := HZ.out
            try clear HZ
            rw [if_pos cP] at H
            have bK : (Op.bytesLess (((rd_T52 aD (aX)).f0.f0).toList) a2.toList) = true := cP
            clear cP
            have HZ := Aside0.mk H
            clear H
            first | rw [bK] | skip
            by_cases cO : (wrap64 (aI + (aD.length : Int))) < aH
            ·
             have H := HZ.out
             try clear HZ
             rw [if_pos cO] at H
             have bJ := decide_eq_true cO
             clear cO
             simp only [Option.some.injEq, Prod.mk.injEq] at H
             obtain ⟨rfl, rfl⟩ := H
             first | rw [bJ] | skip
             go_wp2
             go_ret2
             exact ⟨_, by first | rfl | (simp [errW_none, errW_some] <;> rfl) | (simp only [← aK]; first | rfl | (simp [errW_none, errW_some] <;> rfl)) | (simp [*, errW_none, errW_some] <;> rfl), by (with_reducible repeat (first | apply Kd.R_alloc | apply Kd.R_drewN | apply Kd.R_drew)); exact Kd.R_mono aG.out (fun _ hk => trivial), bs_ HB.out aC.out⟩
            have H := HZ.out
            try clear HZ
            rw [if_neg cO] at H
            have bJ := decide_eq_false cO
            clear cO
            simp only [Option.some.injEq, Prod.mk.injEq] at H
            obtain ⟨rfl, rfl⟩ := H
            first | rw [bJ] | skip
            go_wp2
            go_ret2
            exact ⟨_, by first | rfl | (simp [errW_none, errW_some] <;> rfl) | (simp only [← aK]; first | rfl | (simp [errW_none, errW_some] <;> rfl)) | (simp [*, errW_none, errW_some] <;> rfl), by (with_reducible repeat (first | apply Kd.R_alloc | apply Kd.R_drewN | apply Kd.R_drew)); exact Kd.R_mono aJ.out (fun _ hk => trivial), bs_ HB.out aC.out⟩
           ·
            have H := HZ.out
            try clear HZ
            rw [if_neg cP] at H
            have bK : (Op.bytesLess (((rd_T52 aD (aX)).f0.f0).toList) a2.toList) = false := by simpa using cP
            clear cP
            simp only [Option.some.injEq, Prod.mk.injEq] at H
            obtain ⟨rfl, rfl⟩ := H
            first | rw [bK] | skip
            go_wp2
            go_ret2
            exact ⟨_, by first | rfl | (simp [errW_none, errW_some] <;> rfl) | (simp only [← aK]; first | rfl | (simp [errW_none, errW_some] <;> rfl)) | (simp [*, errW_none, errW_some] <;> rfl), by (with_reducible repeat (first | apply Kd.R_alloc | apply Kd.R_drewN | apply Kd.R_drew)); exact Kd.R_mono aJ.out (fun _ hk => trivial), bs_ HB.out aC.out⟩
def impl_PutNum.f (k : Nat) (l0 : List Int) (a1 : Int) : Option (List Int) := (slices_Clone_byte_byte.f l0).bind fun aB => ((impl_putNum.f k aB a1).bind fun aA => (some aA))
theorem impl_PutNum.calls (k : Nat) (A0 : Option Addr) (c0 : Nat) (l0 : List Int) (a1 : Int) (r : List Int) (w : World) (aJ : Kd.C (Kd.int .u8) w A0 l0.length l0) (aK : l0.length ≤ c0) (h : impl_PutNum.f k l0 a1 = some r) :
 Calls Try.prog 31 #[.slice A0 l0.length c0, .int .i64 a1] w fun e w' => ∃ v0_ : Value, e = .returned (v0_) ∧ Kd.R (Kd.int .u8) 5 w' w.heap.size (fun _ => True) v0_ r ∧ Below w.heap.size w w' := by
 have aO := Aside0.mk aJ
 have aP := Aside0.mk aK
 clear aJ aK
 have HB := q_ (Below.refl w.heap.size w)
 have H := h
 clear h
 unfold impl_PutNum.f at H
 obtain ⟨aA, A3, H⟩ := bo_ H
 obtain ⟨aE, A4, H⟩ := bo_ H
 obtain rfl := Option.some.inj H
 go_enter Try.func31, Try.ntmps31
 go_wp2_with (first | ((with_reducible refine gate_callee (f := 57) rfl ?_); refine gl_ (some 6) Try.func57 #[.slice A0 l0.length c0] rfl al_ ?_; (with_reducible refine (slices_Clone_byte_byte.calls _ _ l0 aA _ ?side1 ?side2 A3.out).mono ?_); (case side1 => exact kc_ aO.out); (case side2 => exact aP.out); rintro e w5 ⟨aM, rfl, aC, hb⟩; refine ⟨_, rfl, ?_⟩; have aB := q_ (Kd.R_lower aC (below_size (be_ HB.out))); replace HB := q_ (below_step (be_ HB.out) hb); (try clear hb); (try clear aC); obtain ⟨aG, aF, aN⟩ := Kd.R_slice aB.out; subst aN) | ((with_reducible refine gate_callee (f := 56) rfl ?_); refine gl_ (some 8) Try.func56 #[.slice aG aA.length aF, .int .i64 a1] rfl al_ ?_; (with_reducible refine (impl_putNum.calls k (fun k_ => some k_ = (.slice aG aA.length aF : Value).ownBlock) (.slice aG aA.length aF) aA a1 aE w _ ?side1 ?side2 A4.out).mono ?_); (case side1 => repeat (first | (with_reducible first | exact HB.out | apply below_alloc | apply pw_below_drewN | apply below_drew1) | exact HB.out)); (case side2 => exact Kd.R_tight rfl aB.out); rintro e w7 ⟨aL, rfl, aC, hb, hkp⟩; refine ⟨_, rfl, ?_⟩; have aI := q_ (Kd.R_mono (ok' := fun k_ => True) aC (fun k_ hk_ => trivial)); have aH := q_ (hb); clear HB; clear aB; have aD := aI; have HB := aH; clear aI aH; (try clear hb); (try clear hkp); (try clear aC)))
 go_ret
 exact ⟨_, rf_, kr_ aD.out, be_ HB.out⟩
def impl_InnerOf.f (k : Nat) (l0 : List (S45)) : Option (ByteArray) := if (l0.length : Int) > 60 then (some (⟨#[]⟩ : ByteArray)) else ((impl_innerOf.f k l0).bind fun aA => (some aA))
theorem impl_InnerOf.calls (k : Nat) (A0 : Option Addr) (c0 : Nat) (l0 : List (S45)) (r : ByteArray) (w : World) (aD : Kd.C k45 w A0 l0.length l0) (aE : l0.length ≤ c0) (h : impl_InnerOf.f k l0 = some r) :
 Calls Try.prog 32 #[.slice A0 l0.length c0] w fun e w' => e = .returned (.string r) ∧ Below w.heap.size w w' := by
 have aF := Aside0.mk aD
 have aG := Aside0.mk aE
 clear aD aE
 have HB := q_ (Below.refl w.heap.size w)
 have H := h
 clear h
 unfold impl_InnerOf.f at H
 by_cases c2 : (l0.length : Int) > 60
 ·
  rw [if_pos c2] at H
  have aC : decide (60 < (l0.length : Int)) = true := decide_eq_true c2
  have aB : decide (60 < l0.length) = true := decide_eq_true (by omega)
  clear c2
  obtain rfl := Option.some.inj H
  go_enter Try.func32, Try.ntmps32
  go_wp2
  go_ret
  exact ⟨rf_, be_ HB.out⟩
 ·
  rw [if_neg c2] at H
  have aC : decide (60 < (l0.length : Int)) = false := decide_eq_false c2
  have aB : decide (60 < l0.length) = false := decide_eq_false (by omega)
  clear c2
  obtain ⟨aA, A3, H⟩ := bo_ H
  obtain rfl := Option.some.inj H
  go_enter Try.func32, Try.ntmps32
  go_wp2_with (first | ((with_reducible refine gate_callee (f := 47) rfl ?_); refine gl_ (some 7) Try.func47 #[.slice A0 l0.length c0] rfl al_ ?_; (with_reducible refine (impl_innerOf.calls k _ _ l0 aA _ ?side1 ?side2 A3.out).mono ?_); (case side1 => exact kc_ aF.out); (case side2 => exact aG.out); rintro e w4 ⟨rfl, hb⟩; refine ⟨_, rfl, ?_⟩; replace HB := q_ (below_step (be_ HB.out) hb); (try clear hb)))
  go_ret
  exact ⟨rf_, be_ HB.out⟩
end Go.Proofs.Ytgmfhchhbidlnaa.P
