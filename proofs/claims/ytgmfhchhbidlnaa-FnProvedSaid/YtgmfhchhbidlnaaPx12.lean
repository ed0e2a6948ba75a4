import Derived.Test.YtgmfhchhbidlnaaPx0
import Derived.Test.YtgmfhchhbidlnaaPx10
namespace Go.Proofs.Ytgmfhchhbidlnaa.P
open Go.RowKit Go.Proofs.YtgmfhchhbidlnaaW.PrintWords Go.Proofs.YtgmfhchhbidlnaaW.PrintLast Go.Proofs.YtgmfhchhbidlnaaW.PrintMore
attribute [local go_sem] max2_int min2_int max_two min_two max_three min_three max_four min_four
set_option linter.unusedVariables false
set_option maxHeartbeats 8000000
set_option maxRecDepth 100000
set_option linter.unusedSimpArgs false
mutual
def impl_climb.j0 : Nat → Int → Int → List ByteArray → Int → Bool → ByteArray → ByteArray → Option ((List (List Int)) × Bool)
 | 0, _, _, _, _, _, _, _ => none
 | k + 1, x1, x2, x3, aE, aL, aD, aC => if 0 ≤ aE then (if aE ≤ (x3.length : Int) then ((impl_climb.f k aD aC x1 x2 (x3.take (aE : Int).toNat)).bind fun aA => (if aA.2 = true then (if 0 ≤ (wrap64 ((aA.1.length : Int) - 1)) then (if (wrap64 ((aA.1.length : Int) - 1)) < (aA.1.length : Int) then ((impl_Digest.f k (rd_L9 aA.1 (wrap64 ((aA.1.length : Int) - 1)))).bind fun aH => (if aL = true then (if aE < (x3.length : Int) then ((impl_nodeBytes.f (rdOf ByteArray.empty x3 aE) aH).bind fun aJ => (if aA.1.length < 5864062014805 then (some ((aA.1 ++ [aJ]), true)) else (none))) else (none)) else (if aE < (x3.length : Int) then ((impl_nodeBytes.f aH (rdOf ByteArray.empty x3 aE)).bind fun aI => (if aA.1.length < 5864062014805 then (some ((aA.1 ++ [aI]), true)) else (none))) else (none)))) else (none)) else (none)) else (some (([] : List (List Int)), false)))) else (none)) else (none)
def impl_climb.f : Nat → ByteArray → ByteArray → Int → Int → List ByteArray → Option ((List (List Int)) × Bool)
 | 0, _, _, _, _, _ => none
 | k + 1, aG, aF, a1, a2, l3 => if a2 = 1 then ((impl_leafBytes.f k aG aF).bind fun aK => (some ((([aK] : List (List Int))), ((l3.length : Int) == 0)))) else (if (wrap64 ((l3.length : Int) - 1)) < 0 then (some (([] : List (List Int)), false)) else ((impl_half.f k a2).bind fun aB => (if a1 ≥ aB then (impl_climb.j0 k (wrap64 (a1 - aB)) (wrap64 (a2 - aB)) l3 (wrap64 ((l3.length : Int) - 1)) (decide (a1 ≥ aB)) aG aF) else (impl_climb.j0 k a1 aB l3 (wrap64 ((l3.length : Int) - 1)) (decide (a1 ≥ aB)) aG aF))))
end
def impl_climb.T11 : Bool × List (List Nat × List Nat) := (true, [([], []), ([], []), ([], []), ([], []), ([], []), ([3, 4], [3, 4]), ([0, 1, 2, 5], [0, 1, 2, 5]), ([6], [6]), ([7], [7]), ([7], [7]), ([8, 6, 0, 1, 2, 3, 4, 5, 6, 7, 8], [8]), ([9, 10, 0, 1, 2, 3, 4, 5, 6, 7, 8, 9, 10], [9])])
def impl_climb.B11 : List Nat := [0, 0, 0, 0, 0, 24, 63, 127, 255, 255, 511, 2047]
theorem impl_climb.tab11 : rtab .any (opsOf Try.f79 11) = impl_climb.T11 := by kernel_rfl
theorem impl_climb.bits11 : waitsOk impl_climb.T11.2 impl_climb.B11 = true := by kernel_rfl
theorem impl_climb.calls (k : Nat) : ∀ (aK : ByteArray) (aJ : ByteArray) (a1 : Int) (a2 : Int) (A3 : Option Addr) (c3 : Nat) (l3 : List ByteArray) (r1 : List (List Int)) (r2 : Bool) (w : World) (eD : Kd.C Kd.string w A3 l3.length l3) (eN : l3.length ≤ c3) (h : impl_climb.f k aK aJ a1 a2 l3 = some (r1, r2)),
 Calls Try.prog 79 #[.agg #[.string aK, .string aJ], .int .i64 a1, .int .i64 a2, .slice A3 l3.length c3] w fun e w' => ∃ v0_ : Value, e = .returned (.tuple #[v0_, .bool r2]) ∧ Kd.N (Kd.slice 5 (Kd.int .u8)) 22 w' w.heap.size (fun k_ => (w.heap.size ≤ k_)) v0_ r1 ∧ Below w.heap.size w w' := by
 induction k using Nat.strongRecOn with
 | _ k ih =>
 intro aK aJ a1 a2 A3 c3 l3 r1 r2 w eD eN h
 cases k with
 | zero => exact absurd h (by simp [impl_climb.f])
 | succ k =>
 simp only [impl_climb.f] at h
 have fY := Try.underlying45
 have dT := Aside0.mk eD
 have eZ := Aside0.mk eN
 clear eD eN
 have HB := q_ (Below.refl w.heap.size w)
 have H : (if a2 = 1 then ((impl_leafBytes.f k aK aJ).bind fun bK => (some ((([bK] : List (List Int))), ((l3.length : Int) == 0)))) else (if (wrap64 ((l3.length : Int) - 1)) < 0 then (some (([] : List (List Int)), false)) else ((impl_half.f k a2).bind fun aR => (if a1 ≥ aR then (impl_climb.j0 k (wrap64 (a1 - aR)) (wrap64 (a2 - aR)) l3 (wrap64 ((l3.length : Int) - 1)) (decide (a1 ≥ aR)) aK aJ) else (impl_climb.j0 k a1 aR l3 (wrap64 ((l3.length : Int) - 1)) (decide (a1 ≥ aR)) aK aJ))))) = some (r1, r2) := h
 clear h
 by_cases c5 : a2 = 1
 ·
  rw [if_pos c5] at H
  have eW := beq_iff_eq.mpr c5
  have eV := bne_eq_false_iff_eq.mpr c5
  clear c5
  obtain ⟨bK, A6, H⟩ := bo_ H
  obtain ⟨fO, cB⟩ : ∃ y_ : List (List Int), y_ = (([bK] : List (List Int))) := ⟨_, rfl⟩
  rw [← cB] at H
  have cR := Aside0.mk cB
  clear cB
  simp only [Option.some.injEq, Prod.mk.injEq] at H
  obtain ⟨rfl, rfl⟩ := H
  go_enter Try.func79, Try.ntmps79
  go_wp2_with (first | ((with_reducible refine gate_dst (N := 4) rfl ?_); refine box_event rfl (N := 4) rfl (cs := #[.string aK, .string aJ]) (t := 45) hr_ ?_; intro aD hg w7 hbox hb; have aA := q_ (hbox); have aC := ge_ hg (be_ HB.out); replace HB := q_ (below_step (be_ HB.out) hb); clear hb hbox hg; obtain ⟨eJ, eI, eH, eG⟩ := bx2_ aA.out) | ((with_reducible refine gate_callee (f := 83) rfl ?_); refine gl_ (some 19) Try.func83 #[.agg #[.string aK, .string aJ]] rfl al_ ?_; (with_reducible refine (impl_leafBytes.calls k aK aJ bK _ A6.out).mono ?_); rintro e w9 ⟨fU, rfl, bF, hb⟩; refine ⟨_, rfl, ?_⟩; have bU := q_ (Kd.R_lower (Kd.R_newM (M := fun k_ => (w.heap.size ≤ k_)) bF (below_size (bs_ HB.out aC.out)) (fun k_ h_ => h_)) (below_size (bs_ HB.out aC.out))); replace aA := q_ (bb_ aA.out hb); replace HB := q_ (below_step (bs_ HB.out aC.out) hb); (try clear hb); (try clear bF); obtain ⟨dZ, dM, eS⟩ := Kd.R_slice bU.out; subst eS) | ((with_reducible refine gate_dst (N := 20) rfl ?_); refine Kd.N_lit (Kd.slice 5 (Kd.int .u8)) _ 22 ?hg (N' := 20) ?hd (xs := ([bK] : List (List Int))) (inner := [.slice dZ bK.length dM]) (ok := (fun k_ => (w.heap.size ≤ k_) ∧ k_ ≠ aD)) (okp := (fun k_ => (w.heap.size ≤ k_) ∧ k_ ≠ aD)) ?hr ?hp (fun _ hk => hk) ((show ∀ k_, w9.heap.size ≤ k_ → (fun k_ => (w.heap.size ≤ k_) ∧ k_ ≠ aD) k_ from fun k_ hk => ⟨(Nat.le_trans (below_size (bs_ HB.out aC.out)) hk), Kd.freshB (g := aD) (o := .cells #[.string aK, .string aJ] 45 (0, 0)) (bk_ aA.out) k_ hk⟩) _ (Nat.le_refl _)) (Below.refl _ _) (Nat.le_refl _) (by simp) ?_; (case hd => rfl); (case hg => rfl); (case hr => first | (go_simp; done) | (go_simp; rfl)); (case hp => exact (Reps.one (show Kd.FK (Kd.slice 5 (Kd.int .u8)) _ _ bK [.slice dZ bK.length dM] from (Kd.FK_slice_mk (Kd.R_reads' (Kd.R_mono (ok' := (fun k_ => (w.heap.size ≤ k_) ∧ k_ ≠ aD)) (Kd.R_types (bU.out) aA.out (by decide)) (fun k_ hk => ⟨hk.1.1, hk.2⟩))).2.1 (Kd.R_F (Kd.R_mono (ok' := (fun k_ => (w.heap.size ≤ k_) ∧ k_ ≠ aD)) (Kd.R_types (bU.out) aA.out (by decide)) (fun k_ hk => ⟨hk.1.1, hk.2⟩))))) (Reps.none _ _))); intro fT gS cC hb hg_ hnew_; clear hg_ hnew_; (first | rw [← cR.out] at cC | (simp only [Int.reduceToNat] at cC; rw [← cR.out] at cC)); have cJ := q_ (Kd.N_lower cC (below_size (bs_ HB.out aC.out))); have cI := q_ (bb_ aA.out hb); have cH := q_ (below_step (bs_ HB.out aC.out) hb); clear aA; clear HB; clear bU; have dW := cJ; have aA := cI; have HB := cH; clear cJ cI cH; clear hb cC))
  go_ret2
  exact ⟨_, rf_, by (with_reducible repeat (first | apply Kd.N_alloc | apply Kd.N_drewN | apply Kd.N_drew)); exact Kd.N_mono dW.out (fun _ hk => hk.1), bs_ HB.out aC.out⟩
 ·
  rw [if_neg c5] at H
  have eW := beq_eq_false_iff_ne.mpr c5
  have eV := bne_iff_ne.mpr c5
  by_cases dB : (wrap64 ((l3.length : Int) - 1)) < 0
  ·
   rw [if_pos dB] at H
   have cQ := decide_eq_true dB
   clear dB
   simp only [Option.some.injEq, Prod.mk.injEq] at H
   obtain ⟨rfl, rfl⟩ := H
   go_enter Try.func79, Try.ntmps79
   go_wp2_with (first | ((with_reducible refine gate_dst (N := 4) rfl ?_); refine box_event rfl (N := 4) rfl (cs := #[.string aK, .string aJ]) (t := 45) hr_ ?_; intro aD hg gR hbox hb; have aA := q_ (hbox); have aC := ge_ hg (be_ HB.out); replace HB := q_ (below_step (be_ HB.out) hb); clear hb hbox hg))
   go_ret2
   exact ⟨_, rf_, by first | exact Kd.S_nil _ _ _ _ _ | exact Kd.N_nil _ _ _ _ _ | exact Kd.V_nil _ _ _ _ _ | exact Kd.Q_nil _ _ _ _ _ | exact Kd.R_nil _ _ _ _ _, bs_ HB.out aC.out⟩
  ·
   rw [if_neg dB] at H
   have cQ := decide_eq_false dB
   clear dB
   obtain ⟨aR, gD, H⟩ := bo_ H
   have cY := Aside0.mk H
   clear H
   go_enter Try.func79, Try.ntmps79
   go_upto_if 34 with (first | ((with_reducible refine gate_dst (N := 4) rfl ?_); refine box_event rfl (N := 4) rfl (cs := #[.string aK, .string aJ]) (t := 45) hr_ ?_; intro aD hg gQ hbox hb; have aA := q_ (hbox); have aC := ge_ hg (be_ HB.out); replace HB := q_ (below_step (be_ HB.out) hb); clear hb hbox hg) | ((with_reducible refine gate_callee (f := 50) rfl ?_); refine gl_ (some 30) Try.func50 #[.int .i64 a2] rfl al_ ?_; (with_reducible refine (impl_half.calls k a2 aR _ gD.out).mono ?_); rintro e w' ⟨rfl, ⟨nd, rfl⟩⟩; refine ⟨_, rfl, ?_⟩))
   (try simp only [Act.put, sa_, sz_, ss_])
   obtain ⟨bq_, hbq_⟩ : ∃ b_ : Bool, decide (aR ≤ a1) = b_ := ⟨_, rfl⟩
   try rw [hbq_]
   have BQ_ := Aside0.mk hbq_
   clear hbq_
   go_cut [1, 2] (fun v1 v2 wc => ∃ (kq : Nat) (aX : Int) (aW : Int), v1 = .int .i64 aX ∧ v2 = .int .i64 aW ∧ Aside0 (impl_climb.j0 kq aX aW l3 (wrap64 ((l3.length : Int) - 1)) (decide (a1 ≥ aR)) aK aJ = some (r1, r2)) ∧ Aside0 (kq ≤ k) ∧ Aside0 (wc.heap[aD]? = some (.cells #[.string aK, .string aJ] 45 (0, 0))) ∧ Aside0 (Below w.heap.size w wc))
   case first =>
    have H := cY.out
    clear cY
    by_cases dA : a1 ≥ aR
    rotate_left
    ·
     rw [if_neg dA] at H
     have bE : decide (aR ≤ a1) = false := decide_eq_false dA
     obtain rfl : bq_ = false := BQ_.out.symm.trans bE
     clear dA
     (first | rw [bE] | (simp only [i64_w, i32_w]; rw [bE]) | skip)
     have H' := Aside0.mk H
     clear H
     go_wp2
     go_meet
     case rel => exact ⟨_, (a1), (aR), rs_, rs_, H', ⟨by first | omega | exact Nat.le_refl _⟩, ⟨bk_ aA.out⟩, ⟨bs_ HB.out aC.out⟩⟩
    rw [if_pos dA] at H
    have bE : decide (aR ≤ a1) = true := decide_eq_true dA
    obtain rfl : bq_ = true := BQ_.out.symm.trans bE
    clear dA
    (first | rw [bE] | (simp only [i64_w, i32_w]; rw [bE]) | skip)
    have H' := Aside0.mk H
    clear H
    go_wp2
    go_meet
    case rel => exact ⟨_, (wrap64 (a1 - aR)), (wrap64 (a2 - aR)), rs_, rs_, H', ⟨by first | omega | exact Nat.le_refl _⟩, ⟨bk_ aA.out⟩, ⟨bs_ HB.out aC.out⟩⟩
   case rest =>
    obtain rfl := BQ_.out
    clear cY
    obtain ⟨kq, aX, aW, rfl, rfl, HA, cX, aA, HB⟩ := hcut
    cases kq with
    | zero => exact absurd HA.out (by simp [impl_climb.j0])
    | succ bY =>
     have H := HA.out
     clear HA
     simp only [impl_climb.j0] at H
     obtain ⟨aI, aU⟩ : ∃ j_ : Int, (wrap64 ((l3.length : Int) - 1)) = j_ := ⟨_, rfl⟩
     first | rw [aU] at H | simp only [aU] at H
     (try rw [aU] at cQ)
     have eF : (IntKind.i64.wrap ((l3.length : Int) - 1)) = aI := (i64_w _).trans aU
     obtain ⟨eY, H⟩ := ip_ H
     have fI := eq_true eY
     have fH : decide (0 ≤ (aI)) = true := decide_eq_true eY
     clear eY
     obtain ⟨eX, H⟩ := ip_ H
     have fG := eq_true eX
     have fF : decide ((aI) ≤ (l3.length : Int)) = true := decide_eq_true eX
     clear eX
     obtain ⟨⟨aM, eC⟩, eB, H⟩ := bo_ H; try dsimp only at H
     by_cases eA : eC = true
     ·
      subst eA
      rw [if_pos rfl] at H
      obtain ⟨aV, bB⟩ : ∃ j_ : Int, (wrap64 ((aM.length : Int) - 1)) = j_ := ⟨_, rfl⟩
      first | rw [bB] at H | simp only [bB] at H
      (try rw [bB] at eB)
      have eE : (IntKind.i64.wrap ((aM.length : Int) - 1)) = aV := (i64_w _).trans bB
      obtain ⟨fE, H⟩ := id_ H
      obtain ⟨fD, H⟩ := id_ H
      obtain ⟨bV, fL, H⟩ := bo_ H
      by_cases cZ : (decide (a1 ≥ aR)) = true
      ·
       rw [if_pos cZ] at H
       have dO : (decide (a1 ≥ aR)) = true := cZ
       clear cZ
       obtain ⟨fC, H⟩ := id_ H
       obtain ⟨bX, gC, H⟩ := bo_ H
       obtain ⟨dS, H⟩ := ia_ H
       obtain ⟨fN, cA⟩ : ∃ y_ : List (List Int), y_ = (aM ++ [bX]) := ⟨_, rfl⟩
       rw [← cA] at H
       have dQ := Aside0.mk cA
       clear cA
       simp only [Option.some.injEq, Prod.mk.injEq] at H
       obtain ⟨rfl, rfl⟩ := H
       try go_wp2
       replace aA := q_ (blk_drew aA.out)
       replace HB := q_ (below_drew1 HB.out)
       obtain ⟨fX, cP, _, cM, _⟩ := info_parts info9
       obtain ⟨eM, dJ, dG⟩ := print_take_of (P := Try.prog) Value.string (⟨#[]⟩ : ByteArray) 50 9 .i64 Try.underlying50 cP cM A3 c3 l3 (aI) od_ od_ eZ.out
       have bC := q_ (Kd.C_of_reads (h1 := fun _ => rfl) (dJ _ (Kd.reads_of_C dT.out)))
       have bL := Aside0.mk dG
       clear dJ dG cP cM
       refine sr_ (fun w' => w'.cell? ⟨aD, 0, none⟩ = some (.string aK) ∧ w'.cell? ⟨aD, 1, none⟩ = some (.string aJ)) [] impl_climb.tab11 impl_climb.bits11 ⟨(blk_cell aA.out 0).trans rfl, (blk_cell aA.out 1).trans rfl⟩ (fun hD hT hW => ?_)
       generalize wc.drew = gP at aA HB bC hD ⊢
       refine p_ 1 44 hT ?_; refine p_ 2 45 hT ?_; refine p_ 3 46 hT ?_; refine p_ 4 47 hT ?_; refine p_ 5 48 hT ?_; refine k_ 0 43 hT hW hD ?_
       refine on_ 6 (some 49) (bq_ 7 5) hT (fun K hK => ?_)
       refine goes_ Try.func79 (by kernel_rfl) rfl #[.agg #[.string aK, .string aJ], .int .i64 aX, .int .i64 aW, .slice A3 (l3.take ((aI) : Int).toNat).length c3] (by rfl) rfl rfl (by (try simp only [List.map_toArray, List.map_cons, List.map_nil]); first | done | (rw [show (l3.take ((aI) : Int).toNat).length = (aI).toNat from (by rw [List.length_take]; have h_ : ((aI) : Int) ≤ (l3.length : Int) := od_; omega)] <;> rfl) | (simp only [aU]; rfl) | rfl | (simp only [List.length_drop, List.length_take]; rfl)) ?_
       with_reducible refine (ih bY (by have := cX.out; omega) aK aJ aX aW _ _ (l3.take ((aI) : Int).toNat) aM true _ ?side1 ?side2 eB.out).mono ?_
       (case side1 => exact kc_ (Kd.C_below bC.out HB.out))
       (case side2 => exact bL.out)
       rintro e gO ⟨dC, rfl, bF, hb⟩
       refine ⟨_, rfl, ?_⟩
       have aG := q_ (Kd.N_lower (Kd.N_mono (ok' := fun k_ => (w.heap.size ≤ k_) ∧ k_ ≠ aD) bF (fun k_ hk_ => ⟨(Nat.le_trans (below_size (bs_ HB.out aC.out)) hk_), (Kd.freshB (g := aD) (o := .cells #[.string aK, .string aJ] 45 (0, 0)) (bk_ aA.out) k_ hk_)⟩)) (below_size (bs_ HB.out aC.out)))
       replace aA := q_ (bb_ aA.out hb)
       replace HB := q_ (below_step (bs_ HB.out aC.out) hb)
       (try clear hb)
       (try clear fA)
       (try clear hk)
       (try clear hi)
       (try clear bF)
       refine hK.out _ _ ⟨(blk_cell aA.out 0).trans rfl, (blk_cell aA.out 1).trans rfl⟩ (fun hD => ?_)
       clear hK K
       refine nm_ ?_
       refine p_ 7 42 hT ?_; refine p_ 8 50 hT ?_; refine p_ 9 51 hT ?_; refine p_ 10 13 hT ?_; refine p_ 11 14 hT ?_
       refine done_ (done_of hT.out (by kernel_rfl)) ?_
       obtain ⟨gA, cG, eR⟩ := Kd.N_slice aG.out
       subst eR
       have bH : 0 ≤ ((aV) : Int) := od_
       have bG : (aV) < (aM.length : Int) := od_
       obtain ⟨bA, bP, bO, cW, bI, aY, aZ⟩ := at_L9 (Kd.N_reads' aG.out).2.2 (aV) bH bG
       cases cW
       obtain ⟨dN, bM, bN, bD⟩ := Kd.N_get aG.out [] (aV) bH (by first | exact bG | exact od_ | (have e_ := (Kd.N_reads' aG.out).1; omega))
       obtain ⟨cE, cD, rfl, aQ, aT⟩ := Kd.FK_slice_open bN
       have aN := bD 0 _ rfl
       rw [Nat.add_zero, show ((Kd.slice 5 (Kd.int .u8))).sz = 1 from rfl, Nat.mul_one] at aN
       replace aN := Option.some.inj (aN.symm.trans bI)
       injection aN with hva_ hvn_ hvc_
       rw [hva_] at aT
       rw [hvc_] at aQ
       have aH := q_ (show Kd.V (Kd.int .u8) 5 _ w.heap.size _ _ (rd_L9 aM (aV)) from Kd.V_mk aQ aT)
       clear hva_ hvn_ hvc_ aT aQ
       clear bD bM
       have aE := Aside0.mk aZ
       have bJ := Aside0.mk aY
       clear aZ aY
       replace bH := eq_true bH
       replace bG := eq_true bG
       try go_wp2_with (first | ((with_reducible refine gate_callee (f := 45) rfl ?_); refine gl_ (some 60) Try.func45 #[.slice bP (rd_L9 aM (aV)).length bO] rfl (by (try simp only [List.map_toArray, List.map_cons, List.map_nil]); first | done | (simp only [bB]; rfl) | rfl | (simp only [List.length_drop, List.length_take]; rfl)) ?_; (with_reducible refine (impl_Digest.calls bY _ _ (rd_L9 aM (aV)) bV _ ?side1 ?side2 fL.out).mono ?_); (case side1 => repeat (first | exact (by repeat (first | (with_reducible exact aE.out) | (with_reducible refine Kd.C_alloc ?_ _) | (with_reducible refine Kd.C_drewN ?_ _) | (with_reducible refine Kd.C_drew ?_) | exact aE.out)) | (with_reducible refine Kd.C_alloc ?_ _) | (with_reducible refine Kd.C_drewN ?_ _) | (with_reducible refine Kd.C_drew ?_))); (case side2 => exact bJ.out); rintro e gN ⟨rfl, hb⟩; refine ⟨_, rfl, ?_⟩; replace aG := q_ (Kd.N_below (by (with_reducible repeat (first | apply Kd.N_alloc | apply Kd.N_drewN | apply Kd.N_drew)); exact aG.out) hb); replace aH := q_ (Kd.V_below (by (with_reducible repeat (first | apply Kd.V_alloc | apply Kd.V_drewN | apply Kd.V_drew)); exact aH.out) hb); replace aA := q_ (bb_ aA.out hb); replace aE := q_ (Kd.C_below (by repeat (first | (with_reducible exact aE.out) | (with_reducible refine Kd.C_alloc ?_ _) | (with_reducible refine Kd.C_drewN ?_ _) | (with_reducible refine Kd.C_drew ?_) | exact aE.out)) hb); replace HB := q_ (below_step (bs_ HB.out aC.out) hb); (try clear hb); have cV : 0 ≤ ((aI) : Int) := od_; have cT : (aI) < (l3.length : Int) := od_; obtain ⟨fK, eU, bR⟩ := Kd.at_string dT.out (aI) cV cT; cases eU; replace bR := hc_ HB.out bR; replace cV := eq_true cV; replace cT := eq_true cT) | ((with_reducible refine gate_callee (f := 84) rfl ?_); refine gl_ (some 68) Try.func84 #[.string (rdOf ByteArray.empty l3 (aI)), .string bV] rfl (by (try simp only [List.map_toArray, List.map_cons, List.map_nil]); first | done | (simp only [aU]; rfl) | rfl | (simp only [List.length_drop, List.length_take]; rfl)) ?_; (with_reducible refine (impl_nodeBytes.calls (rdOf ByteArray.empty l3 (aI)) bV bX _ gC.out).mono ?_); rintro e gM ⟨fS, rfl, bF, hb⟩; refine ⟨_, rfl, ?_⟩; replace aG := q_ (Kd.N_elder' (by (with_reducible repeat (first | apply Kd.N_alloc | apply Kd.N_drewN | apply Kd.N_drew)); exact aG.out) (Kd.R_base bF) hb); replace aH := q_ (Kd.V_elder' (by (with_reducible repeat (first | apply Kd.V_alloc | apply Kd.V_drewN | apply Kd.V_drew)); exact aH.out) (Kd.R_base bF) hb); have bT := q_ (Kd.R_lower (Kd.R_newM (M := fun k_ => (w.heap.size ≤ k_)) bF (below_size (bs_ HB.out aC.out)) (fun k_ h_ => h_)) (below_size (bs_ HB.out aC.out))); replace aA := q_ (bb_ aA.out hb); replace aE := q_ (Kd.C_below (by repeat (first | (with_reducible exact aE.out) | (with_reducible refine Kd.C_alloc ?_ _) | (with_reducible refine Kd.C_drewN ?_ _) | (with_reducible refine Kd.C_drew ?_) | exact aE.out)) hb); replace HB := q_ (below_step (bs_ HB.out aC.out) hb); (try clear hb); (try clear bF); obtain ⟨dY, dL, eQ⟩ := Kd.R_slice bT.out; subst eQ) | ((with_reducible refine gate_builtin (b := .append) (xs := #[.tmp 62, .tmp 69]) rfl ?_); at_builtin; refine Kd.N_append (Kd.slice 5 (Kd.int .u8)) (w0 := w) w.heap.size rfl (.tmp 62) (.tmp 69) 75 22 (.slice none 0 0) 24 rfl Try.underlying75 info22 rfl (by decide) (by omega) (.slice (some bA) aM.length cG) aM bX [.slice dY bX.length dL] (fun k_ => (w.heap.size ≤ k_) ∧ k_ ≠ aD) (fun k_ => ((fun k_ => (w.heap.size ≤ k_) ∧ k_ ≠ aD)) k_ ∧ some k_ ≠ (.slice (some bA) aM.length cG : Value).ownBlock) rfl rfl ?aP (fun _ hk => hk) ?aF ?aO ?aB ?aS ?aL ?_; (case aP => exact (Kd.FK_slice_mk (Kd.R_reads' (Kd.R_mono (ok' := (fun k_ => ((fun k_ => (w.heap.size ≤ k_) ∧ k_ ≠ aD)) k_ ∧ some k_ ≠ (.slice (some bA) aM.length cG : Value).ownBlock)) (Kd.R_types (Kd.R_apart' (bT.out) (Kd.N_typed aG.out) (by decide)) aA.out (by decide)) (fun k_ hk => ⟨⟨hk.1.1.1, hk.2⟩, hk.1.2⟩))).2.1 (Kd.R_F (Kd.R_mono (ok' := (fun k_ => ((fun k_ => (w.heap.size ≤ k_) ∧ k_ ≠ aD)) k_ ∧ some k_ ≠ (.slice (some bA) aM.length cG : Value).ownBlock)) (Kd.R_types (Kd.R_apart' (bT.out) (Kd.N_typed aG.out) (by decide)) aA.out (by decide)) (fun k_ hk => ⟨⟨hk.1.1.1, hk.2⟩, hk.1.2⟩))))); (case aB => exact (bs_ HB.out aC.out)); (case aF => exact (fun k_ hk => ⟨(Nat.le_trans (below_size (bs_ HB.out aC.out)) hk), Kd.freshB (g := aD) (o := .cells #[.string aK, .string aJ] 45 (0, 0)) (bk_ aA.out) k_ hk⟩)); (case aO => exact (by (with_reducible repeat (first | apply Kd.N_alloc | apply Kd.N_drewN | apply Kd.N_drew)); exact Kd.N_mono aG.out (fun _ hk => ⟨hk.1.1, hk.1.2⟩))); (case aS => exact (below_size (bs_ HB.out aC.out))); (case aL => have := dS.out; omega); intro fR gL ho hb hg hat; rw [← dQ.out] at ho; have cJ := q_ (blk_grown (g := aD) (o := .cells #[.string aK, .string aJ] 45 (0, 0)) (bk_ aA.out) hg (Kd.N_ne aG.out aA.out (by decide))); have cI := q_ (Kd.V_afterv (ok := (fun k_ => (w.heap.size ≤ k_) ∧ some k_ ≠ (.slice dY bX.length dL : Value).ownBlock ∧ k_ ≠ aD)) (by (with_reducible repeat (first | apply Kd.V_alloc | apply Kd.V_drewN | apply Kd.V_drew)); exact Kd.V_mono aH.out (fun _ hk => ⟨⟨hk.1.1.1, ⟨hk.2, hk.1.1.2⟩⟩, hk.1.2⟩)) hg hat); have cH := q_ (hb); have dD := q_ (ho); clear aA; clear aH; clear HB; clear aG; clear bT; have aA := cJ; have aH := cI; have HB := cH; have dV := dD; clear cJ cI cH dD; clear ho hb hg hat))
       go_ret2
       exact ⟨_, by first | rfl | (simp [errW_none, errW_some] <;> rfl) | (simp only [← aU, ← bB]; first | rfl | (simp [errW_none, errW_some] <;> rfl)) | (simp [*, errW_none, errW_some] <;> rfl), by (with_reducible repeat (first | apply Kd.N_alloc | apply Kd.N_drewN | apply Kd.N_drew)); exact Kd.N_mono dV.out (fun _ hk => hk.1), bs_ HB.out aC.out⟩
      rw [if_neg cZ] at H
      have dO : (decide (a1 ≥ aR)) = false := by simpa using cZ
      clear cZ
      obtain ⟨fB, H⟩ := id_ H
      obtain ⟨bW, gB, H⟩ := bo_ H
      obtain ⟨dR, H⟩ := ia_ H
      obtain ⟨fM, bZ⟩ : ∃ y_ : List (List Int), y_ = (aM ++ [bW]) := ⟨_, rfl⟩
      rw [← bZ] at H
      have dP := Aside0.mk bZ
      clear bZ
      simp only [Option.some.injEq, Prod.mk.injEq] at H
      obtain ⟨rfl, rfl⟩ := H
      try go_wp2
      replace aA := q_ (blk_drew aA.out)
      replace HB := q_ (below_drew1 HB.out)
      obtain ⟨fW, cO, _, cL, _⟩ := info_parts info9
      obtain ⟨eL, dI, dF⟩ := print_take_of (P := Try.prog) Value.string (⟨#[]⟩ : ByteArray) 50 9 .i64 Try.underlying50 cO cL A3 c3 l3 (aI) od_ od_ eZ.out
      have bC := q_ (Kd.C_of_reads (h1 := fun _ => rfl) (dI _ (Kd.reads_of_C dT.out)))
      have bL := Aside0.mk dF
      clear dI dF cO cL
      refine sr_ (fun w' => w'.cell? ⟨aD, 0, none⟩ = some (.string aK) ∧ w'.cell? ⟨aD, 1, none⟩ = some (.string aJ)) [] impl_climb.tab11 impl_climb.bits11 ⟨(blk_cell aA.out 0).trans rfl, (blk_cell aA.out 1).trans rfl⟩ (fun hD hT hW => ?_)
      generalize wc.drew = gK at aA HB bC hD ⊢
      refine p_ 1 44 hT ?_; refine p_ 2 45 hT ?_; refine p_ 3 46 hT ?_; refine p_ 4 47 hT ?_; refine p_ 5 48 hT ?_; refine k_ 0 43 hT hW hD ?_
      refine on_ 6 (some 49) (bq_ 7 5) hT (fun K hK => ?_)
      refine goes_ Try.func79 (by kernel_rfl) rfl #[.agg #[.string aK, .string aJ], .int .i64 aX, .int .i64 aW, .slice A3 (l3.take ((aI) : Int).toNat).length c3] (by rfl) rfl rfl (by (try simp only [List.map_toArray, List.map_cons, List.map_nil]); first | done | (rw [show (l3.take ((aI) : Int).toNat).length = (aI).toNat from (by rw [List.length_take]; have h_ : ((aI) : Int) ≤ (l3.length : Int) := od_; omega)] <;> rfl) | (simp only [aU]; rfl) | rfl | (simp only [List.length_drop, List.length_take]; rfl)) ?_
      with_reducible refine (ih bY (by have := cX.out; omega) aK aJ aX aW _ _ (l3.take ((aI) : Int).toNat) aM true _ ?side1 ?side2 eB.out).mono ?_
      (case side1 => exact kc_ (Kd.C_below bC.out HB.out))
      (case side2 => exact bL.out)
      rintro e gJ ⟨dC, rfl, bF, hb⟩
      refine ⟨_, rfl, ?_⟩
      have aG := q_ (Kd.N_lower (Kd.N_mono (ok' := fun k_ => (w.heap.size ≤ k_) ∧ k_ ≠ aD) bF (fun k_ hk_ => ⟨(Nat.le_trans (below_size (bs_ HB.out aC.out)) hk_), (Kd.freshB (g := aD) (o := .cells #[.string aK, .string aJ] 45 (0, 0)) (bk_ aA.out) k_ hk_)⟩)) (below_size (bs_ HB.out aC.out)))
      replace aA := q_ (bb_ aA.out hb)
      replace HB := q_ (below_step (bs_ HB.out aC.out) hb)
      (try clear hb)
      (try clear fA)
      (try clear hk)
      (try clear hi)
      (try clear bF)
      refine hK.out _ _ ⟨(blk_cell aA.out 0).trans rfl, (blk_cell aA.out 1).trans rfl⟩ (fun hD => ?_)
      clear hK K
      refine nm_ ?_
      refine p_ 7 42 hT ?_; refine p_ 8 50 hT ?_; refine p_ 9 51 hT ?_; refine p_ 10 13 hT ?_; refine p_ 11 14 hT ?_
      refine done_ (done_of hT.out (by kernel_rfl)) ?_
      obtain ⟨fZ, cF, eP⟩ := Kd.N_slice aG.out
      subst eP
      have bH : 0 ≤ ((aV) : Int) := od_
      have bG : (aV) < (aM.length : Int) := od_
      obtain ⟨bA, bP, bO, cW, bI, aY, aZ⟩ := at_L9 (Kd.N_reads' aG.out).2.2 (aV) bH bG
      cases cW
      obtain ⟨dN, bM, bN, bD⟩ := Kd.N_get aG.out [] (aV) bH (by first | exact bG | exact od_ | (have e_ := (Kd.N_reads' aG.out).1; omega))
      obtain ⟨cE, cD, rfl, aQ, aT⟩ := Kd.FK_slice_open bN
      have aN := bD 0 _ rfl
      rw [Nat.add_zero, show ((Kd.slice 5 (Kd.int .u8))).sz = 1 from rfl, Nat.mul_one] at aN
      replace aN := Option.some.inj (aN.symm.trans bI)
      injection aN with hva_ hvn_ hvc_
      rw [hva_] at aT
      rw [hvc_] at aQ
      have aH := q_ (show Kd.V (Kd.int .u8) 5 _ w.heap.size _ _ (rd_L9 aM (aV)) from Kd.V_mk aQ aT)
      clear hva_ hvn_ hvc_ aT aQ
      clear bD bM
      have aE := Aside0.mk aZ
      have bJ := Aside0.mk aY
      clear aZ aY
      replace bH := eq_true bH
      replace bG := eq_true bG
      try go_wp2_with (first | ((with_reducible refine gate_callee (f := 45) rfl ?_); refine gl_ (some 60) Try.func45 #[.slice bP (rd_L9 aM (aV)).length bO] rfl (by (try simp only [List.map_toArray, List.map_cons, List.map_nil]); first | done | (simp only [bB]; rfl) | rfl | (simp only [List.length_drop, List.length_take]; rfl)) ?_; (with_reducible refine (impl_Digest.calls bY _ _ (rd_L9 aM (aV)) bV _ ?side1 ?side2 fL.out).mono ?_); (case side1 => repeat (first | exact (by repeat (first | (with_reducible exact aE.out) | (with_reducible refine Kd.C_alloc ?_ _) | (with_reducible refine Kd.C_drewN ?_ _) | (with_reducible refine Kd.C_drew ?_) | exact aE.out)) | (with_reducible refine Kd.C_alloc ?_ _) | (with_reducible refine Kd.C_drewN ?_ _) | (with_reducible refine Kd.C_drew ?_))); (case side2 => exact bJ.out); rintro e gI ⟨rfl, hb⟩; refine ⟨_, rfl, ?_⟩; replace aG := q_ (Kd.N_below (by (with_reducible repeat (first | apply Kd.N_alloc | apply Kd.N_drewN | apply Kd.N_drew)); exact aG.out) hb); replace aH := q_ (Kd.V_below (by (with_reducible repeat (first | apply Kd.V_alloc | apply Kd.V_drewN | apply Kd.V_drew)); exact aH.out) hb); replace aA := q_ (bb_ aA.out hb); replace aE := q_ (Kd.C_below (by repeat (first | (with_reducible exact aE.out) | (with_reducible refine Kd.C_alloc ?_ _) | (with_reducible refine Kd.C_drewN ?_ _) | (with_reducible refine Kd.C_drew ?_) | exact aE.out)) hb); replace HB := q_ (below_step (bs_ HB.out aC.out) hb); (try clear hb); have cU : 0 ≤ ((aI) : Int) := od_; have cS : (aI) < (l3.length : Int) := od_; obtain ⟨fJ, eT, bQ⟩ := Kd.at_string dT.out (aI) cU cS; cases eT; replace bQ := hc_ HB.out bQ; replace cU := eq_true cU; replace cS := eq_true cS) | ((with_reducible refine gate_callee (f := 84) rfl ?_); refine gl_ (some 77) Try.func84 #[.string bV, .string (rdOf ByteArray.empty l3 (aI))] rfl (by (try simp only [List.map_toArray, List.map_cons, List.map_nil]); first | done | (simp only [aU]; rfl) | rfl | (simp only [List.length_drop, List.length_take]; rfl)) ?_; (with_reducible refine (impl_nodeBytes.calls bV (rdOf ByteArray.empty l3 (aI)) bW _ gB.out).mono ?_); rintro e gH ⟨fQ, rfl, bF, hb⟩; refine ⟨_, rfl, ?_⟩; replace aG := q_ (Kd.N_elder' (by (with_reducible repeat (first | apply Kd.N_alloc | apply Kd.N_drewN | apply Kd.N_drew)); exact aG.out) (Kd.R_base bF) hb); replace aH := q_ (Kd.V_elder' (by (with_reducible repeat (first | apply Kd.V_alloc | apply Kd.V_drewN | apply Kd.V_drew)); exact aH.out) (Kd.R_base bF) hb); have bS := q_ (Kd.R_lower (Kd.R_newM (M := fun k_ => (w.heap.size ≤ k_)) bF (below_size (bs_ HB.out aC.out)) (fun k_ h_ => h_)) (below_size (bs_ HB.out aC.out))); replace aA := q_ (bb_ aA.out hb); replace aE := q_ (Kd.C_below (by repeat (first | (with_reducible exact aE.out) | (with_reducible refine Kd.C_alloc ?_ _) | (with_reducible refine Kd.C_drewN ?_ _) | (with_reducible refine Kd.C_drew ?_) | exact aE.out)) hb); replace HB := q_ (below_step (bs_ HB.out aC.out) hb); (try clear hb); (try clear bF); obtain ⟨dX, dK, eO⟩ := Kd.R_slice bS.out; subst eO) | ((with_reducible refine gate_builtin (b := .append) (xs := #[.tmp 71, .tmp 78]) rfl ?_); at_builtin; refine Kd.N_append (Kd.slice 5 (Kd.int .u8)) (w0 := w) w.heap.size rfl (.tmp 71) (.tmp 78) 75 22 (.slice none 0 0) 24 rfl Try.underlying75 info22 rfl (by decide) (by omega) (.slice (some bA) aM.length cF) aM bW [.slice dX bW.length dK] (fun k_ => (w.heap.size ≤ k_) ∧ k_ ≠ aD) (fun k_ => ((fun k_ => (w.heap.size ≤ k_) ∧ k_ ≠ aD)) k_ ∧ some k_ ≠ (.slice (some bA) aM.length cF : Value).ownBlock) rfl rfl ?aP (fun _ hk => hk) ?aF ?aO ?aB ?aS ?aL ?_; (case aP => exact (Kd.FK_slice_mk (Kd.R_reads' (Kd.R_mono (ok' := (fun k_ => ((fun k_ => (w.heap.size ≤ k_) ∧ k_ ≠ aD)) k_ ∧ some k_ ≠ (.slice (some bA) aM.length cF : Value).ownBlock)) (Kd.R_types (Kd.R_apart' (bS.out) (Kd.N_typed aG.out) (by decide)) aA.out (by decide)) (fun k_ hk => ⟨⟨hk.1.1.1, hk.2⟩, hk.1.2⟩))).2.1 (Kd.R_F (Kd.R_mono (ok' := (fun k_ => ((fun k_ => (w.heap.size ≤ k_) ∧ k_ ≠ aD)) k_ ∧ some k_ ≠ (.slice (some bA) aM.length cF : Value).ownBlock)) (Kd.R_types (Kd.R_apart' (bS.out) (Kd.N_typed aG.out) (by decide)) aA.out (by decide)) (fun k_ hk => ⟨⟨hk.1.1.1, hk.2⟩, hk.1.2⟩))))); (case aB => exact (bs_ HB.out aC.out)); (case aF => exact (fun k_ hk => ⟨(Nat.le_trans (below_size (bs_ HB.out aC.out)) hk), Kd.freshB (g := aD) (o := .cells #[.string aK, .string aJ] 45 (0, 0)) (bk_ aA.out) k_ hk⟩)); (case aO => exact (by (with_reducible repeat (first | apply Kd.N_alloc | apply Kd.N_drewN | apply Kd.N_drew)); exact Kd.N_mono aG.out (fun _ hk => ⟨hk.1.1, hk.1.2⟩))); (case aS => exact (below_size (bs_ HB.out aC.out))); (case aL => have := dR.out; omega); intro fP gG ho hb hg hat; rw [← dP.out] at ho; have cJ := q_ (blk_grown (g := aD) (o := .cells #[.string aK, .string aJ] 45 (0, 0)) (bk_ aA.out) hg (Kd.N_ne aG.out aA.out (by decide))); have cI := q_ (Kd.V_afterv (ok := (fun k_ => (w.heap.size ≤ k_) ∧ some k_ ≠ (.slice dX bW.length dK : Value).ownBlock ∧ k_ ≠ aD)) (by (with_reducible repeat (first | apply Kd.V_alloc | apply Kd.V_drewN | apply Kd.V_drew)); exact Kd.V_mono aH.out (fun _ hk => ⟨⟨hk.1.1.1, ⟨hk.2, hk.1.1.2⟩⟩, hk.1.2⟩)) hg hat); have cH := q_ (hb); have dD := q_ (ho); clear aA; clear aH; clear HB; clear aG; clear bS; have aA := cJ; have aH := cI; have HB := cH; have dU := dD; clear cJ cI cH dD; clear ho hb hg hat))
      go_ret2
      exact ⟨_, by first | rfl | (simp [errW_none, errW_some] <;> rfl) | (simp only [← aU, ← bB]; first | rfl | (simp [errW_none, errW_some] <;> rfl)) | (simp [*, errW_none, errW_some] <;> rfl), by (with_reducible repeat (first | apply Kd.N_alloc | apply Kd.N_drewN | apply Kd.N_drew)); exact Kd.N_mono dU.out (fun _ hk => hk.1), bs_ HB.out aC.out⟩
     ·
      replace eA := Bool.eq_false_iff.mpr eA
      subst eA
      rw [if_neg (show ¬ (false = true) by decide)] at H
      simp only [Option.some.injEq, Prod.mk.injEq] at H
      obtain ⟨rfl, rfl⟩ := H
      try go_wp2
      replace aA := q_ (blk_drew aA.out)
      replace HB := q_ (below_drew1 HB.out)
      obtain ⟨fV, cN, _, cK, _⟩ := info_parts info9
      obtain ⟨eK, dH, dE⟩ := print_take_of (P := Try.prog) Value.string (⟨#[]⟩ : ByteArray) 50 9 .i64 Try.underlying50 cN cK A3 c3 l3 (aI) od_ od_ eZ.out
      have bC := q_ (Kd.C_of_reads (h1 := fun _ => rfl) (dH _ (Kd.reads_of_C dT.out)))
      have bL := Aside0.mk dE
      clear dH dE cN cK
      refine sr_ (fun w' => w'.cell? ⟨aD, 0, none⟩ = some (.string aK) ∧ w'.cell? ⟨aD, 1, none⟩ = some (.string aJ)) [] impl_climb.tab11 impl_climb.bits11 ⟨(blk_cell aA.out 0).trans rfl, (blk_cell aA.out 1).trans rfl⟩ (fun hD hT hW => ?_)
      generalize wc.drew = gF at aA HB bC hD ⊢
      refine p_ 1 44 hT ?_; refine p_ 2 45 hT ?_; refine p_ 3 46 hT ?_; refine p_ 4 47 hT ?_; refine p_ 5 48 hT ?_; refine k_ 0 43 hT hW hD ?_
      refine on_ 6 (some 49) (bq_ 7 5) hT (fun K hK => ?_)
      refine goes_ Try.func79 (by kernel_rfl) rfl #[.agg #[.string aK, .string aJ], .int .i64 aX, .int .i64 aW, .slice A3 (l3.take ((aI) : Int).toNat).length c3] (by rfl) rfl rfl (by (try simp only [List.map_toArray, List.map_cons, List.map_nil]); first | done | (rw [show (l3.take ((aI) : Int).toNat).length = (aI).toNat from (by rw [List.length_take]; have h_ : ((aI) : Int) ≤ (l3.length : Int) := od_; omega)] <;> rfl) | (simp only [aU]; rfl) | rfl | (simp only [List.length_drop, List.length_take]; rfl)) ?_
      with_reducible refine (ih bY (by have := cX.out; omega) aK aJ aX aW _ _ (l3.take ((aI) : Int).toNat) aM false _ ?side1 ?side2 eB.out).mono ?_
      (case side1 => exact kc_ (Kd.C_below bC.out HB.out))
      (case side2 => exact bL.out)
      rintro e gE ⟨dC, rfl, bF, hb⟩
      refine ⟨_, rfl, ?_⟩
      have aG := q_ (Kd.N_lower (Kd.N_mono (ok' := fun k_ => (w.heap.size ≤ k_) ∧ k_ ≠ aD) bF (fun k_ hk_ => ⟨(Nat.le_trans (below_size (bs_ HB.out aC.out)) hk_), (Kd.freshB (g := aD) (o := .cells #[.string aK, .string aJ] 45 (0, 0)) (bk_ aA.out) k_ hk_)⟩)) (below_size (bs_ HB.out aC.out)))
      replace aA := q_ (bb_ aA.out hb)
      replace HB := q_ (below_step (bs_ HB.out aC.out) hb)
      (try clear hb)
      (try clear fA)
      (try clear hk)
      (try clear hi)
      (try clear bF)
      refine hK.out _ _ ⟨(blk_cell aA.out 0).trans rfl, (blk_cell aA.out 1).trans rfl⟩ (fun hD => ?_)
      clear hK K
      refine nm_ ?_
      refine p_ 7 42 hT ?_; refine p_ 8 50 hT ?_; refine p_ 9 51 hT ?_; refine p_ 10 13 hT ?_; refine p_ 11 14 hT ?_
      refine done_ (done_of hT.out (by kernel_rfl)) ?_
      try go_wp2
      go_ret2
      exact ⟨_, by first | rfl | (simp [errW_none, errW_some] <;> rfl) | (simp only [← aU]; first | rfl | (simp [errW_none, errW_some] <;> rfl)) | (simp [*, errW_none, errW_some] <;> rfl), by first | exact Kd.S_nil _ _ _ _ _ | exact Kd.N_nil _ _ _ _ _ | exact Kd.V_nil _ _ _ _ _ | exact Kd.Q_nil _ _ _ _ _ | exact Kd.R_nil _ _ _ _ _, bs_ HB.out aC.out⟩
def impl_wayTo.f (k : Nat) (aE : ByteArray) (aD : ByteArray) (a1 : Int) (a2 : Int) (l3 : List ByteArray) : Option ((List (List Int)) × Bool) := (impl_climb.f k aE aD a1 a2 l3).bind fun aA => (if aA.2 = true then (if 0 ≤ (wrap64 ((aA.1.length : Int) - 1)) then (if (wrap64 ((aA.1.length : Int) - 1)) < (aA.1.length : Int) then ((impl_Digest.f k (rd_L9 aA.1 (wrap64 ((aA.1.length : Int) - 1)))).bind fun aC => ((impl_rootBytes.f k a2 aC).bind fun aB => (if aA.1.length < 5864062014805 then (some ((aA.1 ++ [aB]), true)) else (none)))) else (none)) else (none)) else (some (([] : List (List Int)), false)))
theorem impl_wayTo.calls (k : Nat) (aK : ByteArray) (aJ : ByteArray) (a1 : Int) (a2 : Int) (A3 : Option Addr) (c3 : Nat) (l3 : List ByteArray) (r1 : List (List Int)) (r2 : Bool) (w : World) (cK : Kd.C Kd.string w A3 l3.length l3) (cM : l3.length ≤ c3) (h : impl_wayTo.f k aK aJ a1 a2 l3 = some (r1, r2)) :
 Calls Try.prog 59 #[.agg #[.string aK, .string aJ], .int .i64 a1, .int .i64 a2, .slice A3 l3.length c3] w fun e w' => ∃ v0_ : Value, e = .returned (.tuple #[v0_, .bool r2]) ∧ Kd.N (Kd.slice 5 (Kd.int .u8)) 22 w' w.heap.size (fun k_ => (w.heap.size ≤ k_)) v0_ r1 ∧ Below w.heap.size w w' := by
 have cT := Try.underlying45
 have cO := Aside0.mk cK
 have cP := Aside0.mk cM
 clear cK cM
 have HB := q_ (Below.refl w.heap.size w)
 have H := h
 clear h
 unfold impl_wayTo.f at H
 obtain ⟨⟨aI, cC⟩, A5, H⟩ := bo_ H; try dsimp only at H
 by_cases c6 : cC = true
 ·
  subst c6
  rw [if_pos rfl] at H
  obtain ⟨bG, aW⟩ : ∃ j_ : Int, (wrap64 ((aI.length : Int) - 1)) = j_ := ⟨_, rfl⟩
  first | rw [aW] at H | simp only [aW] at H
  (try rw [aW] at A5)
  have cL : (IntKind.i64.wrap ((aI.length : Int) - 1)) = bG := (i64_w _).trans aW
  obtain ⟨cV, H⟩ := id_ H
  obtain ⟨cU, H⟩ := id_ H
  obtain ⟨bH, cY, H⟩ := bo_ H
  obtain ⟨aX, cX, H⟩ := bo_ H
  obtain ⟨bO, H⟩ := ia_ H
  obtain ⟨cQ, aY⟩ : ∃ y_ : List (List Int), y_ = (aI ++ [aX]) := ⟨_, rfl⟩
  rw [← aY] at H
  have bN := Aside0.mk aY
  clear aY
  simp only [Option.some.injEq, Prod.mk.injEq] at H
  obtain ⟨rfl, rfl⟩ := H
  go_enter Try.func59, Try.ntmps59
  go_wp2_with (first | ((with_reducible refine gate_dst (N := 4) rfl ?_); refine box_event rfl (N := 4) rfl (cs := #[.string aK, .string aJ]) (t := 45) hr_ ?_; intro aH hg dF hbox hb; have aA := q_ (hbox); have aC := ge_ hg (be_ HB.out); replace HB := q_ (below_step (be_ HB.out) hb); clear hb hbox hg; obtain ⟨cA, bZ, bW, bV⟩ := bx2_ aA.out) | ((with_reducible refine gate_callee (f := 79) rfl ?_); refine gl_ (some 18) Try.func79 #[.agg #[.string aK, .string aJ], .int .i64 a1, .int .i64 a2, .slice A3 l3.length c3] rfl al_ ?_; (with_reducible refine (impl_climb.calls k aK aJ a1 a2 _ _ l3 aI true _ ?side1 ?side2 A5.out).mono ?_); (case side1 => exact kc_ (Kd.C_below cO.out HB.out)); (case side2 => exact cP.out); rintro e dE ⟨cB, rfl, bA, hb⟩; refine ⟨_, rfl, ?_⟩; have aE := q_ (Kd.N_lower (Kd.N_mono (ok' := fun k_ => (w.heap.size ≤ k_) ∧ k_ ≠ aH) bA (fun k_ hk_ => ⟨(Nat.le_trans (below_size (bs_ HB.out aC.out)) hk_), (Kd.freshB (g := aH) (o := .cells #[.string aK, .string aJ] 45 (0, 0)) (bk_ aA.out) k_ hk_)⟩)) (below_size (bs_ HB.out aC.out))); replace aA := q_ (bb_ aA.out hb); replace HB := q_ (below_step (bs_ HB.out aC.out) hb); (try clear hb); (try clear bA); obtain ⟨cW, bE, cE⟩ := Kd.N_slice aE.out; subst cE; have bC : 0 ≤ ((bG) : Int) := od_; have bB : (bG) < (aI.length : Int) := od_; obtain ⟨aU, bL, bK, cF, bD, aR, aT⟩ := at_L9 (Kd.N_reads' aE.out).2.2 (bG) bC bB; cases cF; obtain ⟨cN, bI, bJ, aZ⟩ := Kd.N_get aE.out [] (bG) bC (by first | exact bB | exact od_ | (have e_ := (Kd.N_reads' aE.out).1; omega)); obtain ⟨bS, bR, rfl, aN, aQ⟩ := Kd.FK_slice_open bJ; have aM := aZ 0 _ rfl; rw [Nat.add_zero, show ((Kd.slice 5 (Kd.int .u8))).sz = 1 from rfl, Nat.mul_one] at aM; replace aM := Option.some.inj (aM.symm.trans bD); injection aM with hva_ hvn_ hvc_; rw [hva_] at aQ; rw [hvc_] at aN; have aG := q_ (show Kd.V (Kd.int .u8) 5 _ w.heap.size _ _ (rd_L9 aI (bG)) from Kd.V_mk aN aQ); clear hva_ hvn_ hvc_ aQ aN; clear aZ bI; have aD := Aside0.mk aT; have bF := Aside0.mk aR; clear aT aR; replace bC := eq_true bC; replace bB := eq_true bB) | ((with_reducible refine gate_callee (f := 45) rfl ?_); refine gl_ (some 29) Try.func45 #[.slice bL (rd_L9 aI (bG)).length bK] rfl (by (try simp only [List.map_toArray, List.map_cons, List.map_nil]); first | done | (simp only [aW]; rfl) | rfl | (simp only [List.length_drop, List.length_take]; rfl)) ?_; (with_reducible refine (impl_Digest.calls k _ _ (rd_L9 aI (bG)) bH _ ?side1 ?side2 cY.out).mono ?_); (case side1 => repeat (first | exact (by repeat (first | (with_reducible exact aD.out) | (with_reducible refine Kd.C_alloc ?_ _) | (with_reducible refine Kd.C_drewN ?_ _) | (with_reducible refine Kd.C_drew ?_) | exact aD.out)) | (with_reducible refine Kd.C_alloc ?_ _) | (with_reducible refine Kd.C_drewN ?_ _) | (with_reducible refine Kd.C_drew ?_))); (case side2 => exact bF.out); rintro e dD ⟨rfl, hb⟩; refine ⟨_, rfl, ?_⟩; replace aE := q_ (Kd.N_below (by (with_reducible repeat (first | apply Kd.N_alloc | apply Kd.N_drewN | apply Kd.N_drew)); exact aE.out) hb); replace aG := q_ (Kd.V_below (by (with_reducible repeat (first | apply Kd.V_alloc | apply Kd.V_drewN | apply Kd.V_drew)); exact aG.out) hb); replace aA := q_ (bb_ aA.out hb); replace aD := q_ (Kd.C_below (by repeat (first | (with_reducible exact aD.out) | (with_reducible refine Kd.C_alloc ?_ _) | (with_reducible refine Kd.C_drewN ?_ _) | (with_reducible refine Kd.C_drew ?_) | exact aD.out)) hb); replace HB := q_ (below_step (bs_ HB.out aC.out) hb); (try clear hb)) | ((with_reducible refine gate_callee (f := 46) rfl ?_); refine gl_ (some 33) Try.func46 #[.int .i64 a2, .string bH] rfl al_ ?_; (with_reducible refine (impl_rootBytes.calls k a2 bH aX _ cX.out).mono ?_); rintro e dC ⟨cS, rfl, bA, hb⟩; refine ⟨_, rfl, ?_⟩; replace aE := q_ (Kd.N_elder' (by (with_reducible repeat (first | apply Kd.N_alloc | apply Kd.N_drewN | apply Kd.N_drew)); exact aE.out) (Kd.R_base bA) hb); replace aG := q_ (Kd.V_elder' (by (with_reducible repeat (first | apply Kd.V_alloc | apply Kd.V_drewN | apply Kd.V_drew)); exact aG.out) (Kd.R_base bA) hb); have aV := q_ (Kd.R_lower (Kd.R_newM (M := fun k_ => (w.heap.size ≤ k_)) bA (below_size (bs_ HB.out aC.out)) (fun k_ h_ => h_)) (below_size (bs_ HB.out aC.out))); replace aA := q_ (bb_ aA.out hb); replace aD := q_ (Kd.C_below (by repeat (first | (with_reducible exact aD.out) | (with_reducible refine Kd.C_alloc ?_ _) | (with_reducible refine Kd.C_drewN ?_ _) | (with_reducible refine Kd.C_drew ?_) | exact aD.out)) hb); replace HB := q_ (below_step (bs_ HB.out aC.out) hb); (try clear hb); (try clear bA); obtain ⟨bQ, bM, cD⟩ := Kd.R_slice aV.out; subst cD) | ((with_reducible refine gate_builtin (b := .append) (xs := #[.tmp 30, .tmp 34]) rfl ?_); at_builtin; refine Kd.N_append (Kd.slice 5 (Kd.int .u8)) (w0 := w) w.heap.size rfl (.tmp 30) (.tmp 34) 75 22 (.slice none 0 0) 24 rfl Try.underlying75 info22 rfl (by decide) (by omega) (.slice (some aU) aI.length bE) aI aX [.slice bQ aX.length bM] (fun k_ => (w.heap.size ≤ k_) ∧ k_ ≠ aH) (fun k_ => ((fun k_ => (w.heap.size ≤ k_) ∧ k_ ≠ aH)) k_ ∧ some k_ ≠ (.slice (some aU) aI.length bE : Value).ownBlock) rfl rfl ?aP (fun _ hk => hk) ?aF ?aO ?aB ?aS ?aL ?_; (case aP => exact (Kd.FK_slice_mk (Kd.R_reads' (Kd.R_mono (ok' := (fun k_ => ((fun k_ => (w.heap.size ≤ k_) ∧ k_ ≠ aH)) k_ ∧ some k_ ≠ (.slice (some aU) aI.length bE : Value).ownBlock)) (Kd.R_types (Kd.R_apart' (aV.out) (Kd.N_typed aE.out) (by decide)) aA.out (by decide)) (fun k_ hk => ⟨⟨hk.1.1.1, hk.2⟩, hk.1.2⟩))).2.1 (Kd.R_F (Kd.R_mono (ok' := (fun k_ => ((fun k_ => (w.heap.size ≤ k_) ∧ k_ ≠ aH)) k_ ∧ some k_ ≠ (.slice (some aU) aI.length bE : Value).ownBlock)) (Kd.R_types (Kd.R_apart' (aV.out) (Kd.N_typed aE.out) (by decide)) aA.out (by decide)) (fun k_ hk => ⟨⟨hk.1.1.1, hk.2⟩, hk.1.2⟩))))); (case aB => exact (bs_ HB.out aC.out)); (case aF => exact (fun k_ hk => ⟨(Nat.le_trans (below_size (bs_ HB.out aC.out)) hk), Kd.freshB (g := aH) (o := .cells #[.string aK, .string aJ] 45 (0, 0)) (bk_ aA.out) k_ hk⟩)); (case aO => exact (by (with_reducible repeat (first | apply Kd.N_alloc | apply Kd.N_drewN | apply Kd.N_drew)); exact Kd.N_mono aE.out (fun _ hk => ⟨hk.1.1, hk.1.2⟩))); (case aS => exact (below_size (bs_ HB.out aC.out))); (case aL => have := bO.out; omega); intro cR dB ho hb hg hat; rw [← bN.out] at ho; have cJ := q_ (blk_grown (g := aH) (o := .cells #[.string aK, .string aJ] 45 (0, 0)) (bk_ aA.out) hg (Kd.N_ne aE.out aA.out (by decide))); have cI := q_ (Kd.V_afterv (ok := (fun k_ => (w.heap.size ≤ k_) ∧ some k_ ≠ (.slice bQ aX.length bM : Value).ownBlock ∧ k_ ≠ aH)) (by (with_reducible repeat (first | apply Kd.V_alloc | apply Kd.V_drewN | apply Kd.V_drew)); exact Kd.V_mono aG.out (fun _ hk => ⟨⟨hk.1.1.1, ⟨hk.2, hk.1.1.2⟩⟩, hk.1.2⟩)) hg hat); have cH := q_ (hb); have cG := q_ (ho); clear aA; clear aG; clear HB; clear aE; clear aV; have aA := cJ; have aG := cI; have HB := cH; have bP := cG; clear cJ cI cH cG; clear ho hb hg hat))
  go_ret2
  exact ⟨_, by first | rfl | (simp [errW_none, errW_some] <;> rfl) | (simp only [← aW]; first | rfl | (simp [errW_none, errW_some] <;> rfl)) | (simp [*, errW_none, errW_some] <;> rfl), by (with_reducible repeat (first | apply Kd.N_alloc | apply Kd.N_drewN | apply Kd.N_drew)); exact Kd.N_mono bP.out (fun _ hk => hk.1), bs_ HB.out aC.out⟩
 ·
  replace c6 := Bool.eq_false_iff.mpr c6
  subst c6
  rw [if_neg (show ¬ (false = true) by decide)] at H
  simp only [Option.some.injEq, Prod.mk.injEq] at H
  obtain ⟨rfl, rfl⟩ := H
  go_enter Try.func59, Try.ntmps59
  go_wp2_with (first | ((with_reducible refine gate_dst (N := 4) rfl ?_); refine box_event rfl (N := 4) rfl (cs := #[.string aK, .string aJ]) (t := 45) hr_ ?_; intro aH hg dA hbox hb; have aA := q_ (hbox); have aC := ge_ hg (be_ HB.out); replace HB := q_ (below_step (be_ HB.out) hb); clear hb hbox hg; obtain ⟨bY, bX, bU, bT⟩ := bx2_ aA.out) | ((with_reducible refine gate_callee (f := 79) rfl ?_); refine gl_ (some 18) Try.func79 #[.agg #[.string aK, .string aJ], .int .i64 a1, .int .i64 a2, .slice A3 l3.length c3] rfl al_ ?_; (with_reducible refine (impl_climb.calls k aK aJ a1 a2 _ _ l3 aI false _ ?side1 ?side2 A5.out).mono ?_); (case side1 => exact kc_ (Kd.C_below cO.out HB.out)); (case side2 => exact cP.out); rintro e cZ ⟨cB, rfl, bA, hb⟩; refine ⟨_, rfl, ?_⟩; have aE := q_ (Kd.N_lower (Kd.N_mono (ok' := fun k_ => (w.heap.size ≤ k_) ∧ k_ ≠ aH) bA (fun k_ hk_ => ⟨(Nat.le_trans (below_size (bs_ HB.out aC.out)) hk_), (Kd.freshB (g := aH) (o := .cells #[.string aK, .string aJ] 45 (0, 0)) (bk_ aA.out) k_ hk_)⟩)) (below_size (bs_ HB.out aC.out))); replace aA := q_ (bb_ aA.out hb); replace HB := q_ (below_step (bs_ HB.out aC.out) hb); (try clear hb); (try clear bA)))
  go_ret2
  exact ⟨_, rf_, by first | exact Kd.S_nil _ _ _ _ _ | exact Kd.N_nil _ _ _ _ _ | exact Kd.V_nil _ _ _ _ _ | exact Kd.Q_nil _ _ _ _ _ | exact Kd.R_nil _ _ _ _ _, bs_ HB.out aC.out⟩
def impl_CheckPath.f (k : Nat) (aE : ByteArray) (aD : ByteArray) (a1 : Int) (a2 : Int) (l3 : List ByteArray) (a4 : ByteArray) : Option (Bool) := (impl_isPlace.f a1 a2).bind fun aC => (if aC = true then ((impl_wayTo.f k aE aD a1 a2 l3).bind fun aA => (if aA.2 = true then (if 0 ≤ (wrap64 ((aA.1.length : Int) - 1)) then (if (wrap64 ((aA.1.length : Int) - 1)) < (aA.1.length : Int) then ((impl_Digest.f k (rd_L9 aA.1 (wrap64 ((aA.1.length : Int) - 1)))).bind fun aB => (some (aB.toList == a4.toList))) else (none)) else (none)) else (some false))) else (some false))
theorem impl_CheckPath.calls (k : Nat) (aF : ByteArray) (aE : ByteArray) (a1 : Int) (a2 : Int) (A3 : Option Addr) (c3 : Nat) (l3 : List ByteArray) (a4 : ByteArray) (r : Bool) (w : World) (bR : Kd.C Kd.string w A3 l3.length l3) (bS : l3.length ≤ c3) (h : impl_CheckPath.f k aF aE a1 a2 l3 a4 = some r) :
 Calls Try.prog 49 #[.agg #[.string aF, .string aE], .int .i64 a1, .int .i64 a2, .slice A3 l3.length c3, .string a4] w fun e w' => e = .returned (.bool r) ∧ Below w.heap.size w w' := by
 have bZ := Try.underlying45
 have bX := Aside0.mk bR
 have bY := Aside0.mk bS
 clear bR bS
 have HB := q_ (Below.refl w.heap.size w)
 have H := h
 clear h
 unfold impl_CheckPath.f at H
 obtain ⟨bL, A6, H⟩ := bo_ H
 by_cases c7 : bL = true
 ·
  subst c7
  rw [if_pos rfl] at H
  obtain ⟨⟨aL, bK⟩, A8, H⟩ := bo_ H; try dsimp only at H
  by_cases c9 : bK = true
  rotate_left
  ·
   replace c9 := Bool.eq_false_iff.mpr c9
   subst c9
   rw [if_neg (show ¬ (false = true) by decide)] at H
   obtain rfl := Option.some.inj H
   go_enter Try.func49, Try.ntmps49
   go_wp2_with (first | ((with_reducible refine gate_dst (N := 5) rfl ?_); (try (refine gate_guard (by rfl) ?_; dsimp only)); refine box_event rfl (N := 5) rfl (cs := #[.string aF, .string aE]) (t := 45) hr_ ?_; intro aI hg cF hbox hb; have aB := q_ (hbox); have aA := ge_ hg (be_ HB.out); replace HB := q_ (below_step (be_ HB.out) hb); clear hb hbox hg) | ((with_reducible refine gate_callee (f := 58) rfl ?_); refine gl_ (some 15) Try.func58 #[.int .i64 a1, .int .i64 a2] rfl al_ ?_; (with_reducible refine (impl_isPlace.calls a1 a2 true _ A6.out).mono ?_); rintro e w' ⟨rfl, ⟨nd, rfl⟩⟩; refine ⟨_, rfl, ?_⟩; obtain ⟨bF, bE, bB, bA⟩ := bx2_ aB.out) | ((with_reducible refine gate_callee (f := 59) rfl ?_); refine gl_ (some 22) Try.func59 #[.agg #[.string aF, .string aE], .int .i64 a1, .int .i64 a2, .slice A3 l3.length c3] rfl al_ ?_; (with_reducible refine (impl_wayTo.calls k aF aE a1 a2 _ _ l3 aL false _ ?side1 ?side2 A8.out).mono ?_); (case side1 => repeat (first | exact (Kd.C_below bX.out (bs_ HB.out aA.out)) | (with_reducible refine Kd.C_alloc ?_ _) | (with_reducible refine Kd.C_drewN ?_ _) | (with_reducible refine Kd.C_drew ?_))); (case side2 => exact bY.out); rintro e cE ⟨bI, rfl, aX, hb⟩; refine ⟨_, rfl, ?_⟩; have aG := q_ (Kd.N_lower (Kd.N_mono (ok' := fun k_ => k_ ≠ aI) aX (fun k_ hk_ => (Kd.freshB (g := aI) (o := .cells #[.string aF, .string aE] 45 (0, 0)) (bk_ aB.out) k_ hk_))) (below_size (bs_ HB.out aA.out))); replace aB := q_ (bb_ aB.out hb); replace HB := q_ (below_step (bs_ HB.out aA.out) hb); (try clear hb); (try clear aX)))
   go_ret
   exact ⟨rf_, bs_ HB.out aA.out⟩
  subst c9
  rw [if_pos rfl] at H
  obtain ⟨aM, aH⟩ : ∃ j_ : Int, (wrap64 ((aL.length : Int) - 1)) = j_ := ⟨_, rfl⟩
  first | rw [aH] at H | simp only [aH] at H
  (try rw [aH] at A6)
  (try rw [aH] at A8)
  have bM : (IntKind.i64.wrap ((aL.length : Int) - 1)) = aM := (i64_w _).trans aH
  obtain ⟨bV, H⟩ := id_ H
  obtain ⟨bU, H⟩ := id_ H
  obtain ⟨bJ, cC, H⟩ := bo_ H
  obtain rfl := Option.some.inj H
  go_enter Try.func49, Try.ntmps49
  go_wp2_with (first | ((with_reducible refine gate_dst (N := 5) rfl ?_); (try (refine gate_guard (by rfl) ?_; dsimp only)); refine box_event rfl (N := 5) rfl (cs := #[.string aF, .string aE]) (t := 45) hr_ ?_; intro aI hg cH hbox hb; have aB := q_ (hbox); have aA := ge_ hg (be_ HB.out); replace HB := q_ (below_step (be_ HB.out) hb); clear hb hbox hg) | ((with_reducible refine gate_callee (f := 58) rfl ?_); refine gl_ (some 15) Try.func58 #[.int .i64 a1, .int .i64 a2] rfl al_ ?_; (with_reducible refine (impl_isPlace.calls a1 a2 true _ A6.out).mono ?_); rintro e w' ⟨rfl, ⟨nd, rfl⟩⟩; refine ⟨_, rfl, ?_⟩; obtain ⟨bH, bG, bD, bC⟩ := bx2_ aB.out) | ((with_reducible refine gate_callee (f := 59) rfl ?_); refine gl_ (some 22) Try.func59 #[.agg #[.string aF, .string aE], .int .i64 a1, .int .i64 a2, .slice A3 l3.length c3] rfl al_ ?_; (with_reducible refine (impl_wayTo.calls k aF aE a1 a2 _ _ l3 aL true _ ?side1 ?side2 A8.out).mono ?_); (case side1 => repeat (first | exact (Kd.C_below bX.out (bs_ HB.out aA.out)) | (with_reducible refine Kd.C_alloc ?_ _) | (with_reducible refine Kd.C_drewN ?_ _) | (with_reducible refine Kd.C_drew ?_))); (case side2 => exact bY.out); rintro e w16 ⟨bI, rfl, aX, hb⟩; refine ⟨_, rfl, ?_⟩; have aG := q_ (Kd.N_lower (Kd.N_mono (ok' := fun k_ => k_ ≠ aI) aX (fun k_ hk_ => (Kd.freshB (g := aI) (o := .cells #[.string aF, .string aE] 45 (0, 0)) (bk_ aB.out) k_ hk_))) (below_size (bs_ HB.out aA.out))); replace aB := q_ (bb_ aB.out hb); replace HB := q_ (below_step (bs_ HB.out aA.out) hb); (try clear hb); (try clear aX); obtain ⟨cB, cA, bN⟩ := Kd.N_slice aG.out; subst bN; have aS : 0 ≤ ((aM) : Int) := od_; have aR : (aM) < (aL.length : Int) := od_; obtain ⟨bW, bQ, bP, bO, aT, aN, aO⟩ := at_L9 (Kd.N_reads' aG.out).2.2 (aM) aS aR; cases bO; obtain ⟨bT, aV, aW, aQ⟩ := Kd.N_get aG.out [] (aM) aS (by first | exact aR | exact od_ | (have e_ := (Kd.N_reads' aG.out).1; omega)); obtain ⟨aZ, aY, rfl, aJ, aK⟩ := Kd.FK_slice_open aW; have aD := aQ 0 _ rfl; rw [Nat.add_zero, show ((Kd.slice 5 (Kd.int .u8))).sz = 1 from rfl, Nat.mul_one] at aD; replace aD := Option.some.inj (aD.symm.trans aT); injection aD with hva_ hvn_ hvc_; rw [hva_] at aK; rw [hvc_] at aJ; have aP := q_ (show Kd.V (Kd.int .u8) 5 _ w.heap.size _ _ (rd_L9 aL (aM)) from Kd.V_mk aJ aK); clear hva_ hvn_ hvc_ aK aJ; clear aQ aV; have aC := Aside0.mk aO; have aU := Aside0.mk aN; clear aO aN; replace aS := eq_true aS; replace aR := eq_true aR) | (go_at_call 45; (with_reducible refine (impl_Digest.calls k _ _ (rd_L9 aL (aM)) bJ _ ?side1 ?side2 cC.out).mono ?_); (case side1 => repeat (first | exact (by repeat (first | (with_reducible exact aC.out) | (with_reducible refine Kd.C_alloc ?_ _) | (with_reducible refine Kd.C_drewN ?_ _) | (with_reducible refine Kd.C_drew ?_) | exact aC.out)) | (with_reducible refine Kd.C_alloc ?_ _) | (with_reducible refine Kd.C_drewN ?_ _) | (with_reducible refine Kd.C_drew ?_))); (case side2 => exact aU.out); rintro e cG ⟨rfl, hb⟩; replace aG := q_ (Kd.N_below (by (with_reducible repeat (first | apply Kd.N_alloc | apply Kd.N_drewN | apply Kd.N_drew)); exact aG.out) hb); replace aP := q_ (Kd.V_below (by (with_reducible repeat (first | apply Kd.V_alloc | apply Kd.V_drewN | apply Kd.V_drew)); exact aP.out) hb); replace aB := q_ (bb_ aB.out hb); replace aC := q_ (Kd.C_below (by repeat (first | (with_reducible exact aC.out) | (with_reducible refine Kd.C_alloc ?_ _) | (with_reducible refine Kd.C_drewN ?_ _) | (with_reducible refine Kd.C_drew ?_) | exact aC.out)) hb); replace HB := q_ (below_step (bs_ HB.out aA.out) hb); (try clear hb)))
  go_ret
  exact ⟨by first | rfl | (simp [errW_none, errW_some] <;> rfl) | (simp only [← aH]; first | rfl | (simp [errW_none, errW_some] <;> rfl)) | (simp [*, errW_none, errW_some] <;> rfl), bs_ HB.out aA.out⟩
 ·
  replace c7 := Bool.eq_false_iff.mpr c7
  subst c7
  rw [if_neg (show ¬ (false = true) by decide)] at H
  obtain rfl := Option.some.inj H
  go_enter Try.func49, Try.ntmps49
  go_wp2_with (first | ((with_reducible refine gate_dst (N := 5) rfl ?_); (try (refine gate_guard (by rfl) ?_; dsimp only)); refine box_event rfl (N := 5) rfl (cs := #[.string aF, .string aE]) (t := 45) hr_ ?_; intro aI hg cD hbox hb; have aB := q_ (hbox); have aA := ge_ hg (be_ HB.out); replace HB := q_ (below_step (be_ HB.out) hb); clear hb hbox hg) | ((with_reducible refine gate_callee (f := 58) rfl ?_); refine gl_ (some 15) Try.func58 #[.int .i64 a1, .int .i64 a2] rfl al_ ?_; (with_reducible refine (impl_isPlace.calls a1 a2 false _ A6.out).mono ?_); rintro e w' ⟨rfl, ⟨nd, rfl⟩⟩; refine ⟨_, rfl, ?_⟩))
  go_ret
  exact ⟨rf_, bs_ HB.out aA.out⟩
end Go.Proofs.Ytgmfhchhbidlnaa.P
