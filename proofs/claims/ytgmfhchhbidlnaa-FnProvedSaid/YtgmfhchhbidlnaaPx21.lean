import Derived.Test.YtgmfhchhbidlnaaPx0
import Derived.Test.YtgmfhchhbidlnaaPx17
import Derived.Test.YtgmfhchhbidlnaaPx18
import Derived.Test.YtgmfhchhbidlnaaPx20
import Derived.Test.YtgmfhchhbidlnaaPx1
import Derived.Test.YtgmfhchhbidlnaaPx8
import Derived.Test.YtgmfhchhbidlnaaPx10
import Derived.Test.YtgmfhchhbidlnaaPx14
import Derived.Test.YtgmfhchhbidlnaaPx15
namespace Go.Proofs.Ytgmfhchhbidlnaa.P
open Go.RowKit Go.Proofs.YtgmfhchhbidlnaaW.PrintWords Go.Proofs.YtgmfhchhbidlnaaW.PrintLast Go.Proofs.YtgmfhchhbidlnaaW.PrintMore
attribute [local go_sem] max2_int min2_int max_two min_two max_three min_three max_four min_four
set_option linter.unusedVariables false
set_option maxHeartbeats 8000000
set_option maxRecDepth 100000
set_option linter.unusedSimpArgs false
def laws_clashIn.l0 : Nat → List (S45) → Int → Int → Int → List (S52) → Option (Bool)
 | 0, _, _, _, _, _ => none
 | k + 1, x0, x7, aC, aB, aA => if x7 < (aA.length : Int) then (if 0 ≤ x7 then ((impl_PartAt.f k x0 ((rd_T52 aA x7).f0.f0) ((rd_T52 aA x7).f0.f1) (wrap64 (aB + x7)) aC ((rd_T52 aA x7).f1)).bind fun aD => (if aD.2.2 = true then ((impl_IsClash.f k aD.1 aD.2.1 32).bind fun aF => (if aF = true then ((spec_IsClash.f k aD.1 aD.2.1 32).bind fun aE => (if aE = true then (some true) else (laws_clashIn.l0 k x0 (wrap64 (x7 + 1)) aC aB aA))) else (laws_clashIn.l0 k x0 (wrap64 (x7 + 1)) aC aB aA))) else (laws_clashIn.l0 k x0 (wrap64 (x7 + 1)) aC aB aA))) else (none)) else (some false)
def laws_clashIn.f (k : Nat) (l0 : List (S45)) (aG : Int) (aK : Int) (aJ : List (S52)) : Option (Bool) := if aG = 0 then ((impl_PutNum.f k (([2] : List Int)) 0).bind fun aF => ((impl_InnerOf.f k (([] : List (S45)))).bind fun aE => (if aF.length + aE.size < 140737488355328 then ((some (aF ++ bytesOf aE : List Int)).bind fun aB => ((impl_PutNum.f k (([2] : List Int)) (l0.length : Int)).bind fun aD => ((impl_InnerOf.f k l0).bind fun aC => (if aD.length + aC.size < 140737488355328 then ((some (aD ++ bytesOf aC : List Int)).bind fun aA => ((impl_IsClash.f k (strOfNums aB) (strOfNums aA) 32).bind fun aI => (if aI = true then ((spec_IsClash.f k (strOfNums aB) (strOfNums aA) 32).bind fun aH => (some aH)) else (some false)))) else (none))))) else (none)))) else (laws_clashIn.l0 k l0 0 aG aK aJ)
def laws_clashIn.T8 : Bool × List (List Nat × List Nat) := (true, [([], []), ([], []), ([1], [1]), ([], []), ([2, 3], [2, 3]), ([4], [4]), ([5], [5]), ([], []), ([7], [7]), ([], []), ([8, 9], [8, 9]), ([], []), ([11], [11]), ([], []), ([13], [13]), ([], []), ([14, 15], [14, 15]), ([16], [16]), ([17], [17]), ([0, 6, 10, 12, 18], [0, 6, 10, 12, 18]), ([19], [19]), ([20], [20]), ([20], [20]), ([20], [20]), ([21, 19, 0, 1, 2, 3, 4, 5, 6, 7, 8, 9, 10, 11, 12, 13, 14, 15, 16, 17, 18, 19, 20, 21], [21]), ([22, 24, 0, 1, 2, 3, 4, 5, 6, 7, 8, 9, 10, 11, 12, 13, 14, 15, 16, 17, 18, 19, 20, 21, 22, 24], [22]), ([23, 25, 0, 1, 2, 3, 4, 5, 6, 7, 8, 9, 10, 11, 12, 13, 14, 15, 16, 17, 18, 19, 20, 21, 22, 23, 24, 25], [23])])
def laws_clashIn.B8 : List Nat := [0, 0, 2, 0, 14, 30, 62, 0, 128, 0, 896, 0, 2048, 0, 8192, 0, 57344, 122880, 253952, 524287, 1048575, 2097151, 2097151, 2097151, 4194303, 25165823, 67108863]
theorem laws_clashIn.tab8 : rtab .any (opsOf Try.f13 8) = laws_clashIn.T8 := by kernel_rfl
theorem laws_clashIn.bits8 : waitsOk laws_clashIn.T8.2 laws_clashIn.B8 = true := by kernel_rfl
theorem laws_clashIn.calls (k : Nat) (A0 : Option Addr) (c0 : Nat) (l0 : List (S45)) (aQ : Int) (aU : Int) (bH : Option Addr) (bD : Nat) (aJ : List (S52)) (r : Bool) (w : World) (gL : Kd.C k45 w A0 l0.length l0) (gM : l0.length ≤ c0) (dF : Kd.C k52 w bH aJ.length aJ) (dG : aJ.length ≤ bD) (h : laws_clashIn.f k l0 aQ aU aJ = some r) :
 Calls Try.prog 13 #[.slice A0 l0.length c0, .agg #[.int .i64 aQ, .int .i64 aU, .slice bH aJ.length bD]] w fun e w' => e = .returned (.bool r) ∧ Below w.heap.size w w' := by
 have gS := Try.underlying27
 have gR := Try.underlying45
 have gF := Aside0.mk gL
 have gG := Aside0.mk gM
 clear gL gM
 have dJ := Aside0.mk dF
 have gO := Aside0.mk dG
 clear dF dG
 have HB := q_ (Below.refl w.heap.size w)
 have H := h
 clear h
 unfold laws_clashIn.f at H
 by_cases c3 : aQ = 0
 ·
  rw [if_pos c3] at H
  have gE := beq_iff_eq.mpr c3
  have gD := bne_eq_false_iff_eq.mpr c3
  clear c3
  obtain ⟨aW, cP⟩ : ∃ y_ : List Int, y_ = (([2] : List Int)) := ⟨_, rfl⟩
  replace H : ((impl_PutNum.f k aW 0).bind fun bL => ((impl_InnerOf.f k (([] : List (S45)))).bind fun bK => (if bL.length + bK.size < 140737488355328 then ((some (bL ++ bytesOf bK : List Int)).bind fun bE => ((impl_PutNum.f k (([2] : List Int)) (l0.length : Int)).bind fun bG => ((impl_InnerOf.f k l0).bind fun bF => (if bG.length + bF.size < 140737488355328 then ((some (bG ++ bytesOf bF : List Int)).bind fun bB => ((impl_IsClash.f k (strOfNums bE) (strOfNums bB) 32).bind fun cH => (if cH = true then ((spec_IsClash.f k (strOfNums bE) (strOfNums bB) 32).bind fun cG => (some cG)) else (some false)))) else (none))))) else (none)))) = some r := ry_ cP H
  have cC := Aside0.mk cP
  clear cP
  obtain ⟨bL, A4, H⟩ := bo_ H
  obtain ⟨cY, cO⟩ : ∃ y_ : List (S45), y_ = (([] : List (S45))) := ⟨_, rfl⟩
  rw [← cO] at H
  have cB := Aside0.mk cO
  clear cO
  obtain ⟨bK, A5, H⟩ := bo_ H
  obtain ⟨eC, H⟩ := ia_ H
  obtain ⟨bE, dI, H⟩ := by_ H
  obtain ⟨bC, cN⟩ : ∃ y_ : List Int, y_ = (([2] : List Int)) := ⟨_, rfl⟩
  replace H : ((impl_PutNum.f k bC (l0.length : Int)).bind fun bG => ((impl_InnerOf.f k l0).bind fun bF => (if bG.length + bF.size < 140737488355328 then ((some (bG ++ bytesOf bF : List Int)).bind fun bB => ((impl_IsClash.f k (strOfNums bE) (strOfNums bB) 32).bind fun cH => (if cH = true then ((spec_IsClash.f k (strOfNums bE) (strOfNums bB) 32).bind fun cG => (some cG)) else (some false)))) else (none)))) = some r := ry_ cN H
  have cA := Aside0.mk cN
  clear cN
  obtain ⟨bG, A7, H⟩ := bo_ H
  obtain ⟨bF, A8, H⟩ := bo_ H
  obtain ⟨eB, H⟩ := ia_ H
  obtain ⟨bB, dH, H⟩ := by_ H
  obtain ⟨cH, gQ, H⟩ := bo_ H
  by_cases fK : cH = true
  rotate_left
  ·
   replace fK := Bool.eq_false_iff.mpr fK
   subst fK
   rw [if_neg (show ¬ (false = true) by decide)] at H
   obtain rfl := Option.some.inj H
   go_enter Try.func13, Try.ntmps13
   go_wp2_with (first | ((with_reducible refine gate_dst (N := 3) rfl ?_); refine box_event rfl (N := 3) rfl (cs := #[.int .i64 aQ, .int .i64 aU, .slice bH aJ.length bD]) (t := 27) hr_ ?_; intro aP hg hR hbox hb; have aA := q_ (hbox); have aD := ge_ hg (be_ HB.out); replace HB := q_ (below_step (be_ HB.out) hb); clear hb hbox hg; obtain ⟨fD, fC, fB, eO, eN, eM⟩ := bx3_ aA.out) | ((with_reducible refine gate_dst (N := 14) rfl ?_); refine Kd.R_lit (Kd.int .u8) _ 5 ?hg (N := 14) ?hd (xs := ([2] : List Int)) (inner := [.int .u8 2]) (ok := fun _ => True) (okp := fun _ => True) ?hr ?hp (fun _ hk => hk) trivial (Below.refl _ _) (Nat.le_refl _) (by simp) ?_; (case hd => rfl); (case hg => rfl); (case hr => first | (go_simp; done) | (go_simp; rfl)); (case hp => exact (Reps.one (show Kd.M (Kd.int .u8) _ _ _ 2 [.int .u8 2] from rfl) (Reps.none _ _))); intro fP hQ cR hb hg_ hnew_; clear hg_ hnew_; (first | rw [← cC.out] at cR | (simp only [Int.reduceToNat] at cR; rw [← cC.out] at cR)); have aC := q_ (Kd.R_lower cR (below_size (bs_ HB.out aD.out))); replace aA := q_ (bb_ aA.out hb); replace HB := q_ (below_step (bs_ HB.out aD.out) hb); clear hb cR; obtain ⟨cW, cU, fU⟩ := Kd.R_slice aC.out; subst fU) | ((with_reducible refine gate_callee (f := 31) rfl ?_); refine gl_ (some 15) Try.func31 #[.slice cW aW.length cU, .int .i64 0] rfl al_ ?_; (with_reducible refine (impl_PutNum.calls k _ _ aW 0 bL _ ?side1 ?side2 A4.out).mono ?_); (case side1 => exact kc_ (Kd.R_reads' aC.out).2.2); (case side2 => exact (Kd.R_reads' aC.out).2.1); rintro e hP ⟨dL, rfl, bI, hb⟩; refine ⟨_, rfl, ?_⟩; have aK := q_ (Kd.R_lower (Kd.R_new' bI (Kd.R_lt (kr_ aC.out))) (below_size (bs_ HB.out aD.out))); replace aC := q_ (Kd.R_elder' (kr_ aC.out) (Kd.R_base bI) hb); replace aA := q_ (bb_ aA.out hb); replace HB := q_ (below_step (bs_ HB.out aD.out) hb); (try clear hb); (try clear bI)) | ((with_reducible refine gate_dst (N := 16) rfl ?_); refine Kd.R_lit k45 _ 45 ?hg (N := 16) ?hd (xs := ([] : List (S45))) (inner := []) (ok := fun _ => True) (okp := fun _ => True) ?hr ?hp (fun _ hk => hk) trivial (Below.refl _ _) (Nat.le_refl _) (by simp) ?_; (case hd => rfl); (case hg => rfl); (case hr => first | (go_simp; done) | (go_simp; rfl)); (case hp => exact (Reps.none _ _)); intro fO hO cQ hb hg_ hnew_; clear hg_ hnew_; (first | rw [← cB.out] at cQ | (simp only [Int.reduceToNat] at cQ; rw [← cB.out] at cQ)); replace aC := q_ (Kd.R_below (kr_ aC.out) hb); replace aK := q_ (Kd.R_below (kr_ aK.out) hb); have aE := q_ (Kd.R_lower cQ (below_size (bs_ HB.out aD.out))); replace aA := q_ (bb_ aA.out hb); replace HB := q_ (below_step (bs_ HB.out aD.out) hb); clear hb cQ; obtain ⟨gH, gA, fT⟩ := Kd.R_slice aE.out; subst fT) | ((with_reducible refine gate_callee (f := 32) rfl ?_); refine gl_ (some 17) Try.func32 #[.slice gH cY.length gA] rfl al_ ?_; (with_reducible refine (impl_InnerOf.calls k _ _ cY bK _ ?side1 ?side2 A5.out).mono ?_); (case side1 => exact kc_ (Kd.R_reads' aE.out).2.2); (case side2 => exact (Kd.R_reads' aE.out).2.1); rintro e hN ⟨rfl, hb⟩; refine ⟨_, rfl, ?_⟩; replace aC := q_ (Kd.R_below (kr_ aC.out) hb); replace aK := q_ (Kd.R_below (kr_ aK.out) hb); replace aE := q_ (Kd.R_below (kr_ aE.out) hb); replace aA := q_ (bb_ aA.out hb); replace HB := q_ (below_step (bs_ HB.out aD.out) hb); (try clear hb)) | ((with_reducible refine gate_builtin (b := .append) (xs := #[.tmp 15, _]) rfl ?_); at_builtin; refine Kd.R_append_str (w0 := w) w.heap.size rfl (.tmp 15) _ 22 9 5 rfl Try.underlying22 Try.underlying9 info5 dL bL bK (fun k_ => some k_ ≠ (.slice cW aW.length cU : Value).ownBlock) rfl rfl ?aF ?aO ?aB ?aS ?aL ?_; (case aB => exact (bs_ HB.out aD.out)); (case aF => exact (fun k_ hk => Kd.fresh' (Kd.R_lt (kr_ aC.out)) k_ hk)); (case aO => exact (by (with_reducible repeat (first | apply Kd.R_alloc | apply Kd.R_drewN | apply Kd.R_drew)); exact Kd.R_mono aK.out (fun _ hk => hk.2))); (case aS => exact (below_size (bs_ HB.out aD.out))); (case aL => have := eC.out; omega); intro bJ hM ho hb hg hat; rw [← dI.out] at ho; have cM := q_ (blk_grown (g := aP) (o := .cells #[.int .i64 aQ, .int .i64 aU, .slice bH aJ.length bD] 27 (0, 0)) (bk_ aA.out) hg (Kd.R_ne aK.out aA.out (by decide))); have cL := q_ (Kd.R_after (ok := (fun _ => True)) (kr_ aC.out) hg hat); have cK := q_ (Kd.R_over' (kr_ aE.out) (Kd.R_typed (kr_ aK.out)) (by decide) hg); have cJ := q_ (hb); have cI := q_ (ho); clear aA; clear aC; clear aE; clear HB; clear aK; have aA := cM; have aC := cL; have aE := cK; have HB := cJ; have aG := cI; clear cM cL cK cJ cI; clear ho hb hg hat; have dW := own_string (P := Try.prog) Try.underlying22 Try.underlying5 Try.underlying9 (Kd.own_of_R aG.out)) | ((with_reducible refine gate_dst (N := 20) rfl ?_); refine Kd.R_lit (Kd.int .u8) _ 5 ?hg (N := 20) ?hd (xs := ([2] : List Int)) (inner := [.int .u8 2]) (ok := fun _ => True) (okp := fun _ => True) ?hr ?hp (fun _ hk => hk) trivial (Below.refl _ _) (Nat.le_refl _) (by simp) ?_; (case hd => rfl); (case hg => rfl); (case hr => first | (go_simp; done) | (go_simp; rfl)); (case hp => exact (Reps.one (show Kd.M (Kd.int .u8) _ _ _ 2 [.int .u8 2] from rfl) (Reps.none _ _))); intro fN hL bM hb hg_ hnew_; clear hg_ hnew_; (first | rw [← cA.out] at bM | (simp only [Int.reduceToNat] at bM; rw [← cA.out] at bM)); replace aE := q_ (Kd.R_below (kr_ aE.out) hb); have aH := q_ (Kd.R_lower (Kd.R_new' (Kd.R_new' bM (Kd.R_lt (kr_ aC.out))) (Kd.R_lt (kr_ aG.out))) (below_size (bs_ HB.out aD.out))); replace aC := q_ (Kd.R_elder' (kr_ aC.out) (Kd.R_base bM) hb); replace aG := q_ (Kd.R_elder' (kr_ aG.out) (Kd.R_base bM) hb); replace aA := q_ (bb_ aA.out hb); replace HB := q_ (below_step (bs_ HB.out aD.out) hb); clear hb bM; obtain ⟨dD, cZ, fS⟩ := Kd.R_slice aH.out; subst fS) | ((with_reducible refine gate_callee (f := 31) rfl ?_); refine gl_ (some 23) Try.func31 #[.slice dD bC.length cZ, .int .i64 (l0.length : Int)] rfl al_ ?_; (with_reducible refine (impl_PutNum.calls k _ _ bC (l0.length : Int) bG _ ?side1 ?side2 A7.out).mono ?_); (case side1 => exact kc_ (Kd.R_reads' aH.out).2.2); (case side2 => exact (Kd.R_reads' aH.out).2.1); rintro e hK ⟨dK, rfl, bI, hb⟩; refine ⟨_, rfl, ?_⟩; replace aE := q_ (Kd.R_below (kr_ aE.out) hb); have aM := q_ (Kd.R_lower (Kd.R_new' (Kd.R_new' (Kd.R_new' bI (Kd.R_lt (kr_ aC.out))) (Kd.R_lt (kr_ aG.out))) (Kd.R_lt (kr_ aH.out))) (below_size (bs_ HB.out aD.out))); replace aC := q_ (Kd.R_elder' (kr_ aC.out) (Kd.R_base bI) hb); replace aG := q_ (Kd.R_elder' (kr_ aG.out) (Kd.R_base bI) hb); replace aH := q_ (Kd.R_elder' (kr_ aH.out) (Kd.R_base bI) hb); replace aA := q_ (bb_ aA.out hb); replace HB := q_ (below_step (bs_ HB.out aD.out) hb); (try clear hb); (try clear bI)) | ((with_reducible refine gate_callee (f := 32) rfl ?_); refine gl_ (some 25) Try.func32 #[.slice A0 l0.length c0] rfl al_ ?_; (with_reducible refine (impl_InnerOf.calls k _ _ l0 bF _ ?side1 ?side2 A8.out).mono ?_); (case side1 => exact kc_ (Kd.C_below gF.out HB.out)); (case side2 => exact gG.out); rintro e hJ ⟨rfl, hb⟩; refine ⟨_, rfl, ?_⟩; replace aC := q_ (Kd.R_below (kr_ aC.out) hb); replace aE := q_ (Kd.R_below (kr_ aE.out) hb); replace aG := q_ (Kd.R_below (kr_ aG.out) hb); replace aH := q_ (Kd.R_below (kr_ aH.out) hb); replace aM := q_ (Kd.R_below (kr_ aM.out) hb); replace aA := q_ (bb_ aA.out hb); replace HB := q_ (below_step (bs_ HB.out aD.out) hb); (try clear hb)) | ((with_reducible refine gate_builtin (b := .append) (xs := #[.tmp 23, _]) rfl ?_); at_builtin; refine Kd.R_append_str (w0 := w) w.heap.size rfl (.tmp 23) _ 22 9 5 rfl Try.underlying22 Try.underlying9 info5 dK bG bF (fun k_ => some k_ ≠ (.slice cW aW.length cU : Value).ownBlock ∧ some k_ ≠ (bJ : Value).ownBlock ∧ some k_ ≠ (.slice dD bC.length cZ : Value).ownBlock) rfl rfl ?aF ?aO ?aB ?aS ?aL ?_; (case aB => exact (bs_ HB.out aD.out)); (case aF => exact (fun k_ hk => ⟨Kd.fresh' (Kd.R_lt (kr_ aC.out)) k_ hk, Kd.fresh' (Kd.R_lt (kr_ aG.out)) k_ hk, Kd.fresh' (Kd.R_lt (kr_ aH.out)) k_ hk⟩)); (case aO => exact (by (with_reducible repeat (first | apply Kd.R_alloc | apply Kd.R_drewN | apply Kd.R_drew)); exact Kd.R_mono aM.out (fun _ hk => ⟨hk.1.1.2, ⟨hk.1.2, hk.2⟩⟩))); (case aS => exact (below_size (bs_ HB.out aD.out))); (case aL => have := eB.out; omega); intro fM hI ho hb hg hat; rw [← dH.out] at ho; have cM := q_ (blk_grown (g := aP) (o := .cells #[.int .i64 aQ, .int .i64 aU, .slice bH aJ.length bD] 27 (0, 0)) (bk_ aA.out) hg (Kd.R_ne aM.out aA.out (by decide))); have cL := q_ (Kd.R_after (ok := (fun k_ => some k_ ≠ (bJ : Value).ownBlock ∧ some k_ ≠ (.slice dD bC.length cZ : Value).ownBlock)) (by (with_reducible repeat (first | apply Kd.R_alloc | apply Kd.R_drewN | apply Kd.R_drew)); exact Kd.R_mono aC.out (fun _ hk => ⟨⟨hk.1.1.2, hk.1.2⟩, hk.2⟩)) hg hat); have cK := q_ (Kd.R_over' (kr_ aE.out) (Kd.R_typed (kr_ aM.out)) (by decide) hg); have cJ := q_ (Kd.R_after (ok := (fun k_ => some k_ ≠ (.slice cW aW.length cU : Value).ownBlock ∧ some k_ ≠ (.slice dD bC.length cZ : Value).ownBlock)) (kr_ aG.out) hg hat); have cI := q_ (Kd.R_after (ok := (fun k_ => some k_ ≠ (.slice cW aW.length cU : Value).ownBlock ∧ some k_ ≠ (bJ : Value).ownBlock)) (by (with_reducible repeat (first | apply Kd.R_alloc | apply Kd.R_drewN | apply Kd.R_drew)); exact Kd.R_mono aH.out (fun _ hk => ⟨⟨hk.1.1.2, hk.1.2⟩, hk.2⟩)) hg hat); have dU := q_ (hb); have dT := q_ (ho); clear aA; clear aC; clear aE; clear aG; clear aH; clear HB; clear aM; have aA := cM; have aC := cL; have aE := cK; have aG := cJ; have aH := cI; have HB := dU; have aV := dT; clear cM cL cK cJ cI dU dT; clear ho hb hg hat; have dV := own_string (P := Try.prog) Try.underlying22 Try.underlying5 Try.underlying9 (Kd.own_of_R aV.out)) | ((with_reducible refine gate_callee (f := 33) rfl ?_); refine gl_ (some 30) Try.func33 #[.string (strOfNums bE), .string (strOfNums bB), .int .i64 32] rfl al_ ?_; (with_reducible refine (impl_IsClash.calls k (strOfNums bE) (strOfNums bB) 32 false _ gQ.out).mono ?_); rintro e hH ⟨rfl, hb⟩; refine ⟨_, rfl, ?_⟩; replace aC := q_ (Kd.R_below (kr_ aC.out) hb); replace aE := q_ (Kd.R_below (kr_ aE.out) hb); replace aG := q_ (Kd.R_below (kr_ aG.out) hb); replace aH := q_ (Kd.R_below (kr_ aH.out) hb); replace aV := q_ (Kd.R_below (kr_ aV.out) hb); replace aA := q_ (bb_ aA.out hb); replace HB := q_ (below_step (bs_ HB.out aD.out) hb); (try clear hb)))
   go_ret
   exact ⟨rf_, bs_ HB.out aD.out⟩
  subst fK
  rw [if_pos rfl] at H
  obtain ⟨cG, gY, H⟩ := bo_ H
  obtain rfl := Option.some.inj H
  go_enter Try.func13, Try.ntmps13
  go_wp2_with (first | ((with_reducible refine gate_dst (N := 3) rfl ?_); refine box_event rfl (N := 3) rfl (cs := #[.int .i64 aQ, .int .i64 aU, .slice bH aJ.length bD]) (t := 27) hr_ ?_; intro aP hg iD hbox hb; have aA := q_ (hbox); have aD := ge_ hg (be_ HB.out); replace HB := q_ (below_step (be_ HB.out) hb); clear hb hbox hg; obtain ⟨fG, fF, fE, eR, eQ, eP⟩ := bx3_ aA.out) | ((with_reducible refine gate_dst (N := 14) rfl ?_); refine Kd.R_lit (Kd.int .u8) _ 5 ?hg (N := 14) ?hd (xs := ([2] : List Int)) (inner := [.int .u8 2]) (ok := fun _ => True) (okp := fun _ => True) ?hr ?hp (fun _ hk => hk) trivial (Below.refl _ _) (Nat.le_refl _) (by simp) ?_; (case hd => rfl); (case hg => rfl); (case hr => first | (go_simp; done) | (go_simp; rfl)); (case hp => exact (Reps.one (show Kd.M (Kd.int .u8) _ _ _ 2 [.int .u8 2] from rfl) (Reps.none _ _))); intro fP iC cT hb hg_ hnew_; clear hg_ hnew_; (first | rw [← cC.out] at cT | (simp only [Int.reduceToNat] at cT; rw [← cC.out] at cT)); have aC := q_ (Kd.R_lower cT (below_size (bs_ HB.out aD.out))); replace aA := q_ (bb_ aA.out hb); replace HB := q_ (below_step (bs_ HB.out aD.out) hb); clear hb cT; obtain ⟨cX, cV, fX⟩ := Kd.R_slice aC.out; subst fX) | ((with_reducible refine gate_callee (f := 31) rfl ?_); refine gl_ (some 15) Try.func31 #[.slice cX aW.length cV, .int .i64 0] rfl al_ ?_; (with_reducible refine (impl_PutNum.calls k _ _ aW 0 bL _ ?side1 ?side2 A4.out).mono ?_); (case side1 => exact kc_ (Kd.R_reads' aC.out).2.2); (case side2 => exact (Kd.R_reads' aC.out).2.1); rintro e iB ⟨dL, rfl, bI, hb⟩; refine ⟨_, rfl, ?_⟩; have aK := q_ (Kd.R_lower (Kd.R_new' bI (Kd.R_lt (kr_ aC.out))) (below_size (bs_ HB.out aD.out))); replace aC := q_ (Kd.R_elder' (kr_ aC.out) (Kd.R_base bI) hb); replace aA := q_ (bb_ aA.out hb); replace HB := q_ (below_step (bs_ HB.out aD.out) hb); (try clear hb); (try clear bI)) | ((with_reducible refine gate_dst (N := 16) rfl ?_); refine Kd.R_lit k45 _ 45 ?hg (N := 16) ?hd (xs := ([] : List (S45))) (inner := []) (ok := fun _ => True) (okp := fun _ => True) ?hr ?hp (fun _ hk => hk) trivial (Below.refl _ _) (Nat.le_refl _) (by simp) ?_; (case hd => rfl); (case hg => rfl); (case hr => first | (go_simp; done) | (go_simp; rfl)); (case hp => exact (Reps.none _ _)); intro fO iA cS hb hg_ hnew_; clear hg_ hnew_; (first | rw [← cB.out] at cS | (simp only [Int.reduceToNat] at cS; rw [← cB.out] at cS)); replace aC := q_ (Kd.R_below (kr_ aC.out) hb); replace aK := q_ (Kd.R_below (kr_ aK.out) hb); have aE := q_ (Kd.R_lower cS (below_size (bs_ HB.out aD.out))); replace aA := q_ (bb_ aA.out hb); replace HB := q_ (below_step (bs_ HB.out aD.out) hb); clear hb cS; obtain ⟨gI, gB, fW⟩ := Kd.R_slice aE.out; subst fW) | ((with_reducible refine gate_callee (f := 32) rfl ?_); refine gl_ (some 17) Try.func32 #[.slice gI cY.length gB] rfl al_ ?_; (with_reducible refine (impl_InnerOf.calls k _ _ cY bK _ ?side1 ?side2 A5.out).mono ?_); (case side1 => exact kc_ (Kd.R_reads' aE.out).2.2); (case side2 => exact (Kd.R_reads' aE.out).2.1); rintro e hZ ⟨rfl, hb⟩; refine ⟨_, rfl, ?_⟩; replace aC := q_ (Kd.R_below (kr_ aC.out) hb); replace aK := q_ (Kd.R_below (kr_ aK.out) hb); replace aE := q_ (Kd.R_below (kr_ aE.out) hb); replace aA := q_ (bb_ aA.out hb); replace HB := q_ (below_step (bs_ HB.out aD.out) hb); (try clear hb)) | ((with_reducible refine gate_builtin (b := .append) (xs := #[.tmp 15, _]) rfl ?_); at_builtin; refine Kd.R_append_str (w0 := w) w.heap.size rfl (.tmp 15) _ 22 9 5 rfl Try.underlying22 Try.underlying9 info5 dL bL bK (fun k_ => some k_ ≠ (.slice cX aW.length cV : Value).ownBlock) rfl rfl ?aF ?aO ?aB ?aS ?aL ?_; (case aB => exact (bs_ HB.out aD.out)); (case aF => exact (fun k_ hk => Kd.fresh' (Kd.R_lt (kr_ aC.out)) k_ hk)); (case aO => exact (by (with_reducible repeat (first | apply Kd.R_alloc | apply Kd.R_drewN | apply Kd.R_drew)); exact Kd.R_mono aK.out (fun _ hk => hk.2))); (case aS => exact (below_size (bs_ HB.out aD.out))); (case aL => have := eC.out; omega); intro bJ hY ho hb hg hat; rw [← dI.out] at ho; have cM := q_ (blk_grown (g := aP) (o := .cells #[.int .i64 aQ, .int .i64 aU, .slice bH aJ.length bD] 27 (0, 0)) (bk_ aA.out) hg (Kd.R_ne aK.out aA.out (by decide))); have cL := q_ (Kd.R_after (ok := (fun _ => True)) (kr_ aC.out) hg hat); have cK := q_ (Kd.R_over' (kr_ aE.out) (Kd.R_typed (kr_ aK.out)) (by decide) hg); have cJ := q_ (hb); have cI := q_ (ho); clear aA; clear aC; clear aE; clear HB; clear aK; have aA := cM; have aC := cL; have aE := cK; have HB := cJ; have aG := cI; clear cM cL cK cJ cI; clear ho hb hg hat; have dY := own_string (P := Try.prog) Try.underlying22 Try.underlying5 Try.underlying9 (Kd.own_of_R aG.out)) | ((with_reducible refine gate_dst (N := 20) rfl ?_); refine Kd.R_lit (Kd.int .u8) _ 5 ?hg (N := 20) ?hd (xs := ([2] : List Int)) (inner := [.int .u8 2]) (ok := fun _ => True) (okp := fun _ => True) ?hr ?hp (fun _ hk => hk) trivial (Below.refl _ _) (Nat.le_refl _) (by simp) ?_; (case hd => rfl); (case hg => rfl); (case hr => first | (go_simp; done) | (go_simp; rfl)); (case hp => exact (Reps.one (show Kd.M (Kd.int .u8) _ _ _ 2 [.int .u8 2] from rfl) (Reps.none _ _))); intro fN hX bN hb hg_ hnew_; clear hg_ hnew_; (first | rw [← cA.out] at bN | (simp only [Int.reduceToNat] at bN; rw [← cA.out] at bN)); replace aE := q_ (Kd.R_below (kr_ aE.out) hb); have aH := q_ (Kd.R_lower (Kd.R_new' (Kd.R_new' bN (Kd.R_lt (kr_ aC.out))) (Kd.R_lt (kr_ aG.out))) (below_size (bs_ HB.out aD.out))); replace aC := q_ (Kd.R_elder' (kr_ aC.out) (Kd.R_base bN) hb); replace aG := q_ (Kd.R_elder' (kr_ aG.out) (Kd.R_base bN) hb); replace aA := q_ (bb_ aA.out hb); replace HB := q_ (below_step (bs_ HB.out aD.out) hb); clear hb bN; obtain ⟨dE, dA, fV⟩ := Kd.R_slice aH.out; subst fV) | ((with_reducible refine gate_callee (f := 31) rfl ?_); refine gl_ (some 23) Try.func31 #[.slice dE bC.length dA, .int .i64 (l0.length : Int)] rfl al_ ?_; (with_reducible refine (impl_PutNum.calls k _ _ bC (l0.length : Int) bG _ ?side1 ?side2 A7.out).mono ?_); (case side1 => exact kc_ (Kd.R_reads' aH.out).2.2); (case side2 => exact (Kd.R_reads' aH.out).2.1); rintro e hW ⟨dK, rfl, bI, hb⟩; refine ⟨_, rfl, ?_⟩; replace aE := q_ (Kd.R_below (kr_ aE.out) hb); have aM := q_ (Kd.R_lower (Kd.R_new' (Kd.R_new' (Kd.R_new' bI (Kd.R_lt (kr_ aC.out))) (Kd.R_lt (kr_ aG.out))) (Kd.R_lt (kr_ aH.out))) (below_size (bs_ HB.out aD.out))); replace aC := q_ (Kd.R_elder' (kr_ aC.out) (Kd.R_base bI) hb); replace aG := q_ (Kd.R_elder' (kr_ aG.out) (Kd.R_base bI) hb); replace aH := q_ (Kd.R_elder' (kr_ aH.out) (Kd.R_base bI) hb); replace aA := q_ (bb_ aA.out hb); replace HB := q_ (below_step (bs_ HB.out aD.out) hb); (try clear hb); (try clear bI)) | ((with_reducible refine gate_callee (f := 32) rfl ?_); refine gl_ (some 25) Try.func32 #[.slice A0 l0.length c0] rfl al_ ?_; (with_reducible refine (impl_InnerOf.calls k _ _ l0 bF _ ?side1 ?side2 A8.out).mono ?_); (case side1 => exact kc_ (Kd.C_below gF.out HB.out)); (case side2 => exact gG.out); rintro e hV ⟨rfl, hb⟩; refine ⟨_, rfl, ?_⟩; replace aC := q_ (Kd.R_below (kr_ aC.out) hb); replace aE := q_ (Kd.R_below (kr_ aE.out) hb); replace aG := q_ (Kd.R_below (kr_ aG.out) hb); replace aH := q_ (Kd.R_below (kr_ aH.out) hb); replace aM := q_ (Kd.R_below (kr_ aM.out) hb); replace aA := q_ (bb_ aA.out hb); replace HB := q_ (below_step (bs_ HB.out aD.out) hb); (try clear hb)) | ((with_reducible refine gate_builtin (b := .append) (xs := #[.tmp 23, _]) rfl ?_); at_builtin; refine Kd.R_append_str (w0 := w) w.heap.size rfl (.tmp 23) _ 22 9 5 rfl Try.underlying22 Try.underlying9 info5 dK bG bF (fun k_ => some k_ ≠ (.slice cX aW.length cV : Value).ownBlock ∧ some k_ ≠ (bJ : Value).ownBlock ∧ some k_ ≠ (.slice dE bC.length dA : Value).ownBlock) rfl rfl ?aF ?aO ?aB ?aS ?aL ?_; (case aB => exact (bs_ HB.out aD.out)); (case aF => exact (fun k_ hk => ⟨Kd.fresh' (Kd.R_lt (kr_ aC.out)) k_ hk, Kd.fresh' (Kd.R_lt (kr_ aG.out)) k_ hk, Kd.fresh' (Kd.R_lt (kr_ aH.out)) k_ hk⟩)); (case aO => exact (by (with_reducible repeat (first | apply Kd.R_alloc | apply Kd.R_drewN | apply Kd.R_drew)); exact Kd.R_mono aM.out (fun _ hk => ⟨hk.1.1.2, ⟨hk.1.2, hk.2⟩⟩))); (case aS => exact (below_size (bs_ HB.out aD.out))); (case aL => have := eB.out; omega); intro fM hU ho hb hg hat; rw [← dH.out] at ho; have cM := q_ (blk_grown (g := aP) (o := .cells #[.int .i64 aQ, .int .i64 aU, .slice bH aJ.length bD] 27 (0, 0)) (bk_ aA.out) hg (Kd.R_ne aM.out aA.out (by decide))); have cL := q_ (Kd.R_after (ok := (fun k_ => some k_ ≠ (bJ : Value).ownBlock ∧ some k_ ≠ (.slice dE bC.length dA : Value).ownBlock)) (by (with_reducible repeat (first | apply Kd.R_alloc | apply Kd.R_drewN | apply Kd.R_drew)); exact Kd.R_mono aC.out (fun _ hk => ⟨⟨hk.1.1.2, hk.1.2⟩, hk.2⟩)) hg hat); have cK := q_ (Kd.R_over' (kr_ aE.out) (Kd.R_typed (kr_ aM.out)) (by decide) hg); have cJ := q_ (Kd.R_after (ok := (fun k_ => some k_ ≠ (.slice cX aW.length cV : Value).ownBlock ∧ some k_ ≠ (.slice dE bC.length dA : Value).ownBlock)) (kr_ aG.out) hg hat); have cI := q_ (Kd.R_after (ok := (fun k_ => some k_ ≠ (.slice cX aW.length cV : Value).ownBlock ∧ some k_ ≠ (bJ : Value).ownBlock)) (by (with_reducible repeat (first | apply Kd.R_alloc | apply Kd.R_drewN | apply Kd.R_drew)); exact Kd.R_mono aH.out (fun _ hk => ⟨⟨hk.1.1.2, hk.1.2⟩, hk.2⟩)) hg hat); have dU := q_ (hb); have dT := q_ (ho); clear aA; clear aC; clear aE; clear aG; clear aH; clear HB; clear aM; have aA := cM; have aC := cL; have aE := cK; have aG := cJ; have aH := cI; have HB := dU; have aV := dT; clear cM cL cK cJ cI dU dT; clear ho hb hg hat; have dX := own_string (P := Try.prog) Try.underlying22 Try.underlying5 Try.underlying9 (Kd.own_of_R aV.out)) | ((with_reducible refine gate_callee (f := 33) rfl ?_); refine gl_ (some 30) Try.func33 #[.string (strOfNums bE), .string (strOfNums bB), .int .i64 32] rfl al_ ?_; (with_reducible refine (impl_IsClash.calls k (strOfNums bE) (strOfNums bB) 32 true _ gQ.out).mono ?_); rintro e hT ⟨rfl, hb⟩; refine ⟨_, rfl, ?_⟩; replace aC := q_ (Kd.R_below (kr_ aC.out) hb); replace aE := q_ (Kd.R_below (kr_ aE.out) hb); replace aG := q_ (Kd.R_below (kr_ aG.out) hb); replace aH := q_ (Kd.R_below (kr_ aH.out) hb); replace aV := q_ (Kd.R_below (kr_ aV.out) hb); replace aA := q_ (bb_ aA.out hb); replace HB := q_ (below_step (bs_ HB.out aD.out) hb); (try clear hb)) | (go_at_call 34; (with_reducible refine (spec_IsClash.calls k (strOfNums bE) (strOfNums bB) 32 cG _ gY.out).mono ?_); rintro e hS ⟨rfl, hb⟩; replace aC := q_ (Kd.R_below (kr_ aC.out) hb); replace aE := q_ (Kd.R_below (kr_ aE.out) hb); replace aG := q_ (Kd.R_below (kr_ aG.out) hb); replace aH := q_ (Kd.R_below (kr_ aH.out) hb); replace aV := q_ (Kd.R_below (kr_ aV.out) hb); replace aA := q_ (bb_ aA.out hb); replace HB := q_ (below_step (bs_ HB.out aD.out) hb); (try clear hb)))
  go_ret
  exact ⟨rf_, bs_ HB.out aD.out⟩
 ·
  rw [if_neg c3] at H
  have gE := beq_eq_false_iff_ne.mpr c3
  have gD := bne_iff_ne.mpr c3
  have H' := Aside0.mk H
  clear H
  go_enter Try.func13, Try.ntmps13
  go_wp2_with (first | ((with_reducible refine gate_dst (N := 3) rfl ?_); refine box_event rfl (N := 3) rfl (cs := #[.int .i64 aQ, .int .i64 aU, .slice bH aJ.length bD]) (t := 27) hr_ ?_; intro aP hg hG hbox hb; have aA := q_ (hbox); have aD := ge_ hg (be_ HB.out); replace HB := q_ (below_step (be_ HB.out) hb); clear hb hbox hg; obtain ⟨fA, eZ, eY, eL, eK, eJ⟩ := bx3_ aA.out))
  go_loopg [7] k (fun kq v7 w' => ∃ (aI : Int), v7 = .int .i64 aI ∧ Aside0 (laws_clashIn.l0 kq l0 aI aQ aU aJ = some r) ∧ Aside0 (kq ≤ k) ∧ Aside0 (w'.heap[aP]? = some (.cells #[.int .i64 aQ, .int .i64 aU, (.slice bH aJ.length bD)] 27 (0, 0))) ∧ Aside0 (Below w.heap.size w w'))
  case atStart => exact ⟨(0), rs_, H', ⟨Nat.le_refl _⟩, ⟨bk_ aA.out⟩, ⟨bs_ HB.out aD.out⟩⟩
  case round =>
   clear H'
   try clear gW
   try clear gV
   try clear gU
   try clear gT
   try clear dY
   try clear dX
   try clear dW
   try clear dV
   obtain ⟨aI, rfl, HA, dR, aA, HB⟩ := hrel
   cases gk with
   | zero => exact absurd HA.out (by simp [laws_clashIn.l0])
   | succ k1 =>
    have H := HA.out
    clear HA
    simp only [laws_clashIn.l0] at H
    by_cases dQ : aI < (aJ.length : Int)
    ·
     rw [if_pos dQ] at H
     have dZ := decide_eq_true dQ
     clear dQ
     obtain ⟨gN, H⟩ := id_ H
     obtain ⟨⟨cF, cE, dS⟩, gX, H⟩ := bo_ H; try dsimp only at H
     have HZ := Aside0.mk H
     clear H
     obtain ⟨eX, eW, eV, eI, eH, eG⟩ := bx3_ aA.out
     try go_wp2
     replace aA := q_ (blk_drew aA.out)
     replace HB := q_ (below_drew1 HB.out)
     have dP : 0 ≤ (aI : Int) := od_
     have dN : aI < (aJ.length : Int) := od_
     obtain ⟨aN, bP, bO, fZ, bA, aZ, aT, bX, bZ⟩ := at_T52 dJ.out aI dP dN
     have bT := aT
     have bU := aZ
     have bV := bA
     cases fZ
     replace bA := hc_ HB.out bA
     replace aZ := hc_ HB.out aZ
     replace aT := hc_ HB.out aT
     have dB := Aside0.mk bZ
     have fL := Aside0.mk bX
     clear bZ bX
     replace dP := eq_true dP
     replace dN := eq_true dN
     have dO : 0 ≤ (aI : Int) := od_
     have dM : aI < (aJ.length : Int) := od_
     obtain ⟨eA, gJ, gC, fY, aY, aX, aR, bW, bY⟩ := at_T52 dJ.out aI dO dM
     have bQ := aR
     have bR := aX
     have bS := aY
     obtain rfl : aN = eA := (by injection fY)
     replace aY := hc_ HB.out aY
     replace aX := hc_ HB.out aX
     replace aR := hc_ HB.out aR
     have cD := Aside0.mk bY
     have dC := Aside0.mk bW
     clear bY bW
     replace dO := eq_true dO
     replace dM := eq_true dM
     have ea_ := Option.some.inj (aT.symm.trans aR)
     injection ea_ with ea_ en_ ec_
     subst ea_
     subst ec_
     clear en_
     refine sr_ (fun w' => w'.cell? ⟨aP, 0, none⟩ = some (.int .i64 aQ) ∧ w'.cell? ⟨aP, 1, none⟩ = some (.int .i64 aU) ∧ w'.cell? ⟨aP, 2, none⟩ = some (.slice (some aN) aJ.length bD) ∧ w'.cell? (aN.add ((aI).toNat * 3)) = some (.string ((rd_T52 aJ aI).f0.f0)) ∧ w'.cell? ⟨(aN.add ((aI).toNat * 3)).block, (aN.add ((aI).toNat * 3)).off + 1, none⟩ = some (.string ((rd_T52 aJ aI).f0.f1)) ∧ w'.cell? ⟨(aN.add ((aI).toNat * 3)).block, (aN.add ((aI).toNat * 3)).off + 2, none⟩ = some (.slice bP ((rd_T52 aJ aI).f1).length bO) ∧ w'.cell? (aN.add ((aI).toNat * 3)) = some (.string ((rd_T52 aJ aI).f0.f0)) ∧ w'.cell? ⟨(aN.add ((aI).toNat * 3)).block, (aN.add ((aI).toNat * 3)).off + 1, none⟩ = some (.string ((rd_T52 aJ aI).f0.f1)) ∧ w'.cell? ⟨(aN.add ((aI).toNat * 3)).block, (aN.add ((aI).toNat * 3)).off + 2, none⟩ = some (.slice bP ((rd_T52 aJ aI).f1).length bO)) [] laws_clashIn.tab8 laws_clashIn.bits8 ⟨(blk_cell aA.out 0).trans rfl, (blk_cell aA.out 1).trans rfl, (blk_cell aA.out 2).trans rfl, (hc_ HB.out bV), (hc_ HB.out bU), (hc_ HB.out bT), (hc_ HB.out bS), (hc_ HB.out bR), (hc_ HB.out bQ)⟩ (fun hHeld HT_ HW_ => ?_)
     generalize wr.drew = hD at aA HB dB cD bA aZ aT aY aX aR hHeld ⊢
     refine p_ 0 44 HT_ ?_; refine p_ 1 45 HT_ ?_; refine p_ 3 47 HT_ ?_; refine p_ 7 51 HT_ ?_; refine p_ 9 53 HT_ ?_; refine p_ 11 55 HT_ ?_; refine p_ 13 57 HT_ ?_; refine p_ 15 59 HT_ ?_; refine k_ 2 46 HT_ HW_ hHeld ?_; refine p_ 4 48 HT_ ?_; refine p_ 5 49 HT_ ?_; refine k_ 6 50 HT_ HW_ hHeld ?_; refine k_ 8 52 HT_ HW_ hHeld ?_; refine p_ 10 54 HT_ ?_; refine k_ 12 56 HT_ HW_ hHeld ?_; refine k_ 14 58 HT_ HW_ hHeld ?_; refine p_ 16 60 HT_ ?_; refine p_ 17 61 HT_ ?_; refine k_ 18 62 HT_ HW_ hHeld ?_
     refine oc_ 19 63 (bq_ 20 7) HT_ Try.func35 #[.slice A0 l0.length c0, .agg #[.string ((rd_T52 aJ aI).f0.f0), .string ((rd_T52 aJ aI).f0.f1)], .int .i64 (wrap64 (aU + aI)), .int .i64 aQ, .slice bP ((rd_T52 aJ aI).f1).length bO] ?_
     with_reducible refine (impl_PartAt.calls k1 _ _ l0 ((rd_T52 aJ aI).f0.f0) ((rd_T52 aJ aI).f0.f1) (wrap64 (aU + aI)) aQ _ _ ((rd_T52 aJ aI).f1) cF cE dS _ ?side1 ?side2 ?side3 ?side4 gX.out).mono ?_
     (case side1 => exact kc_ (Kd.C_below gF.out HB.out))
     (case side2 => exact gG.out)
     (case side3 => exact kc_ (Kd.C_below cD.out HB.out))
     (case side4 => exact dC.out)
     rintro e hC ⟨rfl, hb⟩
     refine ⟨_, rfl, ?_⟩
     replace aA := q_ (bb_ aA.out hb)
     replace HB := q_ (below_step (bs_ HB.out aD.out) hb)
     (try clear hb)
     (try clear iE)
     (try clear hk)
     (try clear hi)
     refine ⟨⟨(blk_cell aA.out 0).trans rfl, (blk_cell aA.out 1).trans rfl, (blk_cell aA.out 2).trans rfl, (hc_ HB.out bV), (hc_ HB.out bU), (hc_ HB.out bT), (hc_ HB.out bS), (hc_ HB.out bR), (hc_ HB.out bQ)⟩, fun hHeld => nm_ ?_⟩
     refine p_ 20 43 HT_ ?_; refine p_ 21 64 HT_ ?_; refine p_ 22 65 HT_ ?_; refine p_ 23 66 HT_ ?_; refine p_ 24 8 HT_ ?_; refine p_ 25 9 HT_ ?_; refine p_ 26 10 HT_ ?_
     by_cases fJ : dS = true
     rotate_left
     ·
      have H := HZ.out
      try clear HZ
      replace fJ := Bool.eq_false_iff.mpr fJ
      subst fJ
      rw [if_neg (show ¬ (false = true) by decide)] at H
      have H' := Aside0.mk H
      clear H
      refine done_ (done_of HT_.out (by kernel_rfl)) ?_
      try go_wp2
      go_roundg k1
      case measure => have := dR.out; omega
      case rel => exact ⟨(wrap64 (aI + 1)), rs_, H', ⟨by have := dR.out; omega⟩, ⟨bk_ aA.out⟩, ⟨bs_ HB.out aD.out⟩⟩
     have H := HZ.out
     try clear HZ
     subst fJ
     rw [if_pos rfl] at H
     obtain ⟨fR, gK, H⟩ := bo_ H
     have HZ := Aside0.mk H
     clear H
     by_cases fI : fR = true
     rotate_left
     ·
      have H := HZ.out
      try clear HZ
      replace fI := Bool.eq_false_iff.mpr fI
      subst fI
      rw [if_neg (show ¬ (false = true) by decide)] at H
      have H' := Aside0.mk H
      clear H
      refine done_ (done_of HT_.out (by kernel_rfl)) ?_
      try go_wp2_with (first | (go_at_call 33; (with_reducible refine (impl_IsClash.calls k1 cF cE 32 false _ gK.out).mono ?_); rintro e gZ ⟨rfl, hb⟩; replace aA := q_ (bb_ aA.out hb); replace HB := q_ (below_step (bs_ HB.out aD.out) hb); (try clear hb)))
      go_roundg k1
      case measure => have := dR.out; omega
      case rel => exact ⟨(wrap64 (aI + 1)), rs_, H', ⟨by have := dR.out; omega⟩, ⟨bk_ aA.out⟩, ⟨bs_ HB.out aD.out⟩⟩
     have H := HZ.out
     try clear HZ
     subst fI
     rw [if_pos rfl] at H
     obtain ⟨fQ, gP, H⟩ := bo_ H
     have HZ := Aside0.mk H
     clear H
     by_cases fH : fQ = true
     ·
      have H := HZ.out
      try clear HZ
      subst fH
      rw [if_pos rfl] at H
      obtain rfl := Option.some.inj H
      refine done_ (done_of HT_.out (by kernel_rfl)) ?_
      try go_wp2_with (first | (go_at_call 33; (with_reducible refine (impl_IsClash.calls k1 cF cE 32 true _ gK.out).mono ?_); rintro e hF ⟨rfl, hb⟩; replace aA := q_ (bb_ aA.out hb); replace HB := q_ (below_step (bs_ HB.out aD.out) hb); (try clear hb)) | (go_at_call 34; (with_reducible refine (spec_IsClash.calls k1 cF cE 32 true _ gP.out).mono ?_); rintro e hE ⟨rfl, hb⟩; replace aA := q_ (bb_ aA.out hb); replace HB := q_ (below_step (bs_ HB.out aD.out) hb); (try clear hb)))
      go_ret
      exact ⟨rf_, bs_ HB.out aD.out⟩
     have H := HZ.out
     try clear HZ
     replace fH := Bool.eq_false_iff.mpr fH
     subst fH
     rw [if_neg (show ¬ (false = true) by decide)] at H
     have H' := Aside0.mk H
     clear H
     refine done_ (done_of HT_.out (by kernel_rfl)) ?_
     try go_wp2_with (first | (go_at_call 33; (with_reducible refine (impl_IsClash.calls k1 cF cE 32 true _ gK.out).mono ?_); rintro e hB ⟨rfl, hb⟩; replace aA := q_ (bb_ aA.out hb); replace HB := q_ (below_step (bs_ HB.out aD.out) hb); (try clear hb)) | (go_at_call 34; (with_reducible refine (spec_IsClash.calls k1 cF cE 32 false _ gP.out).mono ?_); rintro e hA ⟨rfl, hb⟩; replace aA := q_ (bb_ aA.out hb); replace HB := q_ (below_step (bs_ HB.out aD.out) hb); (try clear hb)))
     go_roundg k1
     case measure => have := dR.out; omega
     case rel => exact ⟨(wrap64 (aI + 1)), rs_, H', ⟨by have := dR.out; omega⟩, ⟨bk_ aA.out⟩, ⟨bs_ HB.out aD.out⟩⟩
    ·
     rw [if_neg dQ] at H
     have dZ := decide_eq_false dQ
     clear dQ
     obtain rfl := Option.some.inj H
     obtain ⟨eU, eT, eS, eF, eE, eD⟩ := bx3_ aA.out
     go_wp2
     go_ret
     exact ⟨rf_, bs_ HB.out aD.out⟩
section
mutual
def laws_FnProved.j0 : Nat → List (S45) → ByteArray → ByteArray → ByteArray → List (S45) → Bool → Int → Int → List (S52) → Option (Bool)
 | 0, _, _, _, _, _, _, _, _, _ => none
 | k + 1, x3, x4, x5, x7, x8, aJ, aC, aB, aA => if aJ = true then (some false) else ((impl_CheckBetween.f k x7 x4 x5 aC aB aA).bind fun aD => ((spec_CheckBetween.f k x7 x4 x5 aC aB aA).bind fun aE => (if (aD.2 != aE.2) = true then (laws_FnProved.j1 k x3 x8 aD.1 aD.2 aE.2 true aC aB aA) else (laws_FnProved.j1 k x3 x8 aD.1 aD.2 aE.2 (!aD.2) aC aB aA))))
def laws_FnProved.j1 : Nat → List (S45) → List (S45) → List (S45) → Bool → Bool → Bool → Int → Int → List (S52) → Option (Bool)
 | 0, _, _, _, _, _, _, _, _, _ => none
 | k + 1, x3, x8, aH, aL, aK, aI, aC, aB, aA => if aI = true then (if (aL == aK) = true then (some ((aH.length : Int) == 0)) else (some false)) else ((laws_samePairs.f k aH x8).bind fun aG => (if aG = true then (some true) else ((laws_clashIn.f k x3 aC aB aA).bind fun aF => (some aF))))
end
def laws_FnProved.f (k : Nat) (l0 : List Int) : Option (Bool) := (laws_big.f l0).bind fun aH => (if aH = true then (some true) else ((spec_DrawLie.f k l0).bind fun aA => ((impl_RootOf.f k aA.1).bind fun aB => ((impl_Between.f k aA.1 aA.2.1 aA.2.2.1).bind fun aD => ((impl_ProveBetween.f k aA.1 aA.2.1 aA.2.2.1).bind fun aC => ((impl_CheckBetween.f k aB aA.2.1 aA.2.2.1 aC.1 aC.2.1 aC.2.2).bind fun aE => ((spec_RootOf.f k aA.1).bind fun aG => (if aB.toList = aG.toList then (if aE.2 = true then ((laws_samePairs.f k aE.1 aD).bind fun aF => (laws_FnProved.j0 k aA.1 aA.2.1 aA.2.2.1 aB aD (!aF) aA.2.2.2.1 aA.2.2.2.2.1 aA.2.2.2.2.2)) else (laws_FnProved.j0 k aA.1 aA.2.1 aA.2.2.1 aB aD true aA.2.2.2.1 aA.2.2.2.2.1 aA.2.2.2.2.2)) else (laws_FnProved.j0 k aA.1 aA.2.1 aA.2.2.1 aB aD true aA.2.2.2.1 aA.2.2.2.2.1 aA.2.2.2.2.2)))))))))
theorem laws_FnProved.calls (k : Nat) (A0 : Option Addr) (c0 : Nat) (l0 : List Int) (r : Bool) (w : World) (eH : Kd.C (Kd.int .u8) w A0 l0.length l0) (eJ : l0.length ≤ c0) (h : laws_FnProved.f k l0 = some r) :
 Calls Try.prog 3 #[.slice A0 l0.length c0] w fun e w' => e = .returned (.bool r) ∧ Below w.heap.size w w' := by
 have eV := Try.underlying27
 have dY := Aside0.mk eH
 have eA := Aside0.mk eJ
 clear eH eJ
 have HB := q_ (Below.refl w.heap.size w)
 have H := h
 clear h
 unfold laws_FnProved.f at H
 obtain ⟨dH, A2, H⟩ := bo_ H
 by_cases c3 : dH = true
 ·
  subst c3
  rw [if_pos rfl] at H
  obtain rfl := Option.some.inj H
  go_enter Try.func3, Try.ntmps3
  go_wp2_with (first | ((with_reducible refine gate_callee (f := 4) rfl ?_); refine gl_ (some 16) Try.func4 #[.slice A0 l0.length c0] rfl al_ ?_; (with_reducible refine (laws_big.calls _ _ l0 true _ ?side1 ?side2 A2.out).mono ?_); (case side1 => exact kc_ dY.out); (case side2 => exact eA.out); rintro e w' ⟨rfl, ⟨nd, rfl⟩⟩; refine ⟨_, rfl, ?_⟩))
  go_ret
  exact ⟨rf_, be_ HB.out⟩
 ·
  replace c3 := Bool.eq_false_iff.mpr c3
  subst c3
  rw [if_neg (show ¬ (false = true) by decide)] at H
  obtain ⟨⟨aF, aW, aV, aN, aO, aK⟩, A4, H⟩ := bo_ H; try dsimp only at H
  obtain ⟨bB, A5, H⟩ := bo_ H
  obtain ⟨aX, A6, H⟩ := bo_ H
  obtain ⟨⟨bO, bN, bM⟩, A7, H⟩ := bo_ H; try dsimp only at H
  obtain ⟨⟨bU, bT⟩, A8, H⟩ := bo_ H; try dsimp only at H
  have dZ := Aside0.mk H
  clear H
  go_enter Try.func3, Try.ntmps3
  go_upto_region 7 with (first | ((with_reducible refine gate_callee (f := 4) rfl ?_); refine gl_ (some 16) Try.func4 #[.slice A0 l0.length c0] rfl al_ ?_; (with_reducible refine (laws_big.calls _ _ l0 false _ ?side1 ?side2 A2.out).mono ?_); (case side1 => exact kc_ dY.out); (case side2 => exact eA.out); rintro e w' ⟨rfl, ⟨nd, rfl⟩⟩; refine ⟨_, rfl, ?_⟩) | ((with_reducible refine gate_callee (f := 5) rfl ?_); refine gl_ (some 19) Try.func5 #[.slice A0 l0.length c0] rfl al_ ?_; (with_reducible refine (spec_DrawLie.calls k _ _ l0 aF aW aV aN aO aK _ ?side1 ?side2 A4.out).mono ?_); (case side1 => exact kc_ dY.out); (case side2 => exact eA.out); rintro e fR ⟨dD, eS, rfl, aP, eI, hb⟩; refine ⟨_, rfl, ?_⟩; have aB := q_ (Kd.R_lower (Kd.R_mono (ok' := fun k_ => True) aP (fun _ hk_ => trivial)) (below_size (be_ HB.out))); have aE := q_ (Kd.V_lower (Kd.V_mono (ok' := fun k_ => some k_ ≠ (dD : Value).ownBlock) eI (fun k_ hk_ => hk_.2)) (below_size (be_ HB.out))); replace HB := q_ (below_step (be_ HB.out) hb); (try clear hb); (try clear aP); (try clear eI)) | ((with_reducible refine gate_dst (N := 6) rfl ?_); (try (refine gate_guard (by rfl) ?_; dsimp only)); refine box_event rfl (N := 6) rfl (cs := #[.int .i64 0, .int .i64 0, .slice none 0 0]) (t := 27) hr_ ?_; intro aH hg fQ hbox hb; replace aB := q_ (Kd.R_below (kr_ aB.out) hb); replace aE := q_ (Kd.V_below (Kd.V_elderB (by (with_reducible repeat (first | apply Kd.V_alloc | apply Kd.V_drewN | apply Kd.V_drew)); exact aE.out) aH (Nat.le_of_eq hg.symm)) hb); have aC := q_ (hbox); have aD := ge_ hg (be_ HB.out); replace HB := q_ (below_step (be_ HB.out) hb); clear hb hbox hg; obtain ⟨cY, cX, cW, cM, cL, cK⟩ := bx3_ aC.out; obtain ⟨aZ, aY, dS⟩ := Kd.V_slice aE.out; subst dS; obtain ⟨aU, aQ, dR⟩ := Kd.R_slice aB.out; subst dR) | ((with_reducible refine gate_callee (f := 6) rfl ?_); refine gl_ (some 25) Try.func6 #[.slice aU aF.length aQ] rfl al_ ?_; (with_reducible refine (impl_RootOf.calls k _ _ aF bB _ ?side1 ?side2 A5.out).mono ?_); (case side1 => refine (Kd.R_reads' (e := 45) (base := w.heap.size) (ok := fun k_ => True) (n := aF.length) (c := aQ) ?_).2.2; exact (by (with_reducible repeat (first | apply Kd.R_alloc | apply Kd.R_drewN | apply Kd.R_drew)); exact (Kd.R_mono (Kd.R_far (p := ⟨aH, 2, none⟩) (Kd.R_far (p := ⟨aH, 1, none⟩) (Kd.R_far (p := ⟨aH, 0, none⟩) (Kd.R_types aB.out aC.out (by decide)) (fun _ hk => hk.2) (.int .i64 aN)) (fun _ hk => hk.2) (.int .i64 aO)) (fun _ hk => hk.2) (.slice aZ aK.length aY)) (fun _ h_ => h_.1)))); (case side2 => exact (Kd.R_reads' aB.out).2.1); rintro e fP ⟨rfl, hb⟩; refine ⟨_, rfl, ?_⟩; replace aB := q_ (Kd.R_below (by (with_reducible repeat (first | apply Kd.R_alloc | apply Kd.R_drewN | apply Kd.R_drew)); exact (Kd.R_mono (Kd.R_far (p := ⟨aH, 2, none⟩) (Kd.R_far (p := ⟨aH, 1, none⟩) (Kd.R_far (p := ⟨aH, 0, none⟩) (Kd.R_types aB.out aC.out (by decide)) (fun _ hk => hk.2) (.int .i64 aN)) (fun _ hk => hk.2) (.int .i64 aO)) (fun _ hk => hk.2) (.slice aZ aK.length aY)) (fun _ h_ => h_.1))) hb); replace aE := q_ (Kd.V_below (by (with_reducible repeat (first | apply Kd.V_alloc | apply Kd.V_drewN | apply Kd.V_drew)); exact (Kd.V_mono (Kd.V_far (p := ⟨aH, 2, none⟩) (Kd.V_far (p := ⟨aH, 1, none⟩) (Kd.V_far (p := ⟨aH, 0, none⟩) (Kd.V_mono aE.out (fun k_ hk => (⟨hk, hk.2⟩ : _ ∧ k_ ≠ aH))) (fun _ hk => hk.2) (.int .i64 aN)) (fun _ hk => hk.2) (.int .i64 aO)) (fun _ hk => hk.2) (.slice aZ aK.length aY)) (fun _ h_ => h_.1))) hb); replace aC := q_ (blk_below (g := aH) (o := .cells #[.int .i64 aN, .int .i64 aO, .slice aZ aK.length aY] 27 (0, 0)) (by (with_reducible repeat (first | refine blk_drewN ?_ _ | refine blk_drew ?_ | refine blk_alloc ?_ _)); refine blk_put (cs := #[.int .i64 aN, .int .i64 aO, .slice none 0 0]) ?_ 2 _ rfl; (with_reducible repeat (first | refine blk_drewN ?_ _ | refine blk_drew ?_ | refine blk_alloc ?_ _)); refine blk_put (cs := #[.int .i64 aN, .int .i64 0, .slice none 0 0]) ?_ 1 _ rfl; (with_reducible repeat (first | refine blk_drewN ?_ _ | refine blk_drew ?_ | refine blk_alloc ?_ _)); refine blk_put (cs := #[.int .i64 0, .int .i64 0, .slice none 0 0]) ?_ 0 _ rfl; (with_reducible repeat (first | refine blk_drewN ?_ _ | refine blk_drew ?_ | refine blk_alloc ?_ _)); exact aC.out) hb); replace HB := q_ (below_step (bs_ HB.out aD.out) hb); (try clear hb)) | ((with_reducible refine gate_callee (f := 7) rfl ?_); refine gl_ (some 29) Try.func7 #[.slice aU aF.length aQ, .string aW, .string aV] rfl al_ ?_; (with_reducible refine (impl_Between.calls k _ _ aF aW aV aX _ ?side1 ?side2 A6.out).mono ?_); (case side1 => exact kc_ (Kd.R_reads' aB.out).2.2); (case side2 => exact (Kd.R_reads' aB.out).2.1); rintro e w16 ⟨bF, rfl, aP, hb⟩; refine ⟨_, rfl, ?_⟩; replace aE := q_ (Kd.V_elder' (by (with_reducible repeat (first | apply Kd.V_alloc | apply Kd.V_drewN | apply Kd.V_drew)); exact aE.out) (Kd.R_base aP) hb); have aG := q_ (Kd.R_lower (Kd.R_new' aP (Kd.R_lt (kr_ aB.out))) (below_size (bs_ HB.out aD.out))); replace aB := q_ (Kd.R_elder' (kr_ aB.out) (Kd.R_base aP) hb); replace aC := q_ (bb_ aC.out hb); replace HB := q_ (below_step (bs_ HB.out aD.out) hb); (try clear hb); (try clear aP)) | ((with_reducible refine gate_callee (f := 9) rfl ?_); refine gl_ (some 37) Try.func9 #[.slice aU aF.length aQ, .string aW, .string aV] rfl al_ ?_; (with_reducible refine (impl_ProveBetween.calls k _ _ aF aW aV bO bN bM _ ?side1 ?side2 A7.out).mono ?_); (case side1 => exact kc_ (Kd.R_reads' aB.out).2.2); (case side2 => exact (Kd.R_reads' aB.out).2.1); rintro e fO ⟨eR, rfl, aP, hb⟩; refine ⟨_, rfl, ?_⟩; replace aB := q_ (Kd.R_below (kr_ aB.out) hb); replace aE := q_ (Kd.V_elder' (by (with_reducible repeat (first | apply Kd.V_alloc | apply Kd.V_drewN | apply Kd.V_drew)); exact aE.out) (Kd.S_base aP) hb); replace aG := q_ (Kd.R_below (kr_ aG.out) hb); have aM := q_ (Kd.S_lower aP (below_size (bs_ HB.out aD.out))); replace aC := q_ (bb_ aC.out hb); replace HB := q_ (below_step (bs_ HB.out aD.out) hb); (try clear hb); (try clear aP); obtain ⟨eF, dX, dQ⟩ := Kd.S_slice aM.out; subst dQ) | ((with_reducible refine gate_callee (f := 8) rfl ?_); refine gl_ (some 38) Try.func8 #[.string bB, .string aW, .string aV, .agg #[.int .i64 bO, .int .i64 bN, .slice eF bM.length dX]] rfl al_ ?_; (with_reducible refine (impl_CheckBetween.calls k bB aW aV bO bN _ _ bM bU bT _ ?side1 ?side2 A8.out).mono ?_); (case side1 => repeat (first | exact (Kd.S_reads' aM.out).2.2 | (with_reducible refine Kd.C_alloc ?_ _) | (with_reducible refine Kd.C_drewN ?_ _) | (with_reducible refine Kd.C_drew ?_))); (case side2 => exact (Kd.S_reads' aM.out).2.1); rintro e fN ⟨eQ, rfl, aP, hb⟩; refine ⟨_, rfl, ?_⟩; replace aE := q_ (Kd.V_elder' (by (with_reducible repeat (first | apply Kd.V_alloc | apply Kd.V_drewN | apply Kd.V_drew)); exact aE.out) (Kd.R_base aP) hb); replace aM := q_ (Kd.S_below (ks_ aM.out) hb); have aS := q_ (Kd.R_lower (Kd.R_new' (Kd.R_new' aP (Kd.R_lt (kr_ aB.out))) (Kd.R_lt (kr_ aG.out))) (below_size (bs_ HB.out aD.out))); replace aB := q_ (Kd.R_elder' (kr_ aB.out) (Kd.R_base aP) hb); replace aG := q_ (Kd.R_elder' (kr_ aG.out) (Kd.R_base aP) hb); replace aC := q_ (bb_ aC.out hb); replace HB := q_ (below_step (bs_ HB.out aD.out) hb); (try clear hb); (try clear aP)))
  (try simp only [Act.put, sa_, sz_, ss_])
  go_cut [54] (fun eU wc => ∃ (kq : Nat) (bH : Bool), eU = .bool bH ∧ Aside0 (laws_FnProved.j0 kq aF aW aV bB aX bH aN aO aK = some r) ∧ Aside0 (kq ≤ k) ∧ Aside0 (Kd.R k45 45 wc w.heap.size (fun k_ => some k_ ≠ (bF : Value).ownBlock) (.slice aU aF.length aQ) aF) ∧ Aside0 (Kd.R k45 45 wc w.heap.size (fun k_ => some k_ ≠ ((.slice aU aF.length aQ) : Value).ownBlock) bF aX) ∧ Aside0 (Kd.V k52 52 wc w.heap.size (fun k_ => some k_ ≠ ((.slice aU aF.length aQ) : Value).ownBlock ∧ some k_ ≠ (bF : Value).ownBlock ∧ k_ ≠ aH) (.slice aZ aK.length aY) aK) ∧ Aside0 (wc.heap[aH]? = some (.cells #[.int .i64 aN, .int .i64 aO, (.slice aZ aK.length aY)] 27 (0, 0))) ∧ Aside0 (Below w.heap.size w wc))
  case first =>
   have H := dZ.out
   clear dZ
   obtain ⟨bL, eG, H⟩ := bo_ H
   by_cases bQ : bB.toList = bL.toList
   rotate_left
   ·
    rw [if_neg bQ] at H
    have bD := beq_eq_false_iff_ne.mpr bQ
    have cA := bne_iff_ne.mpr bQ
    (first | rw [bD] | (simp only [i64_w, i32_w]; rw [bD]) | skip)
    have H' := Aside0.mk H
    clear H
    go_wp2_with (first | ((with_reducible refine gate_callee (f := 10) rfl ?_); refine gl_ (some 43) Try.func10 #[.slice aU aF.length aQ] rfl al_ ?_; (with_reducible refine (spec_RootOf.calls k _ _ aF bL _ ?side1 ?side2 eG.out).mono ?_); (case side1 => exact kc_ (Kd.R_reads' aB.out).2.2); (case side2 => exact (Kd.R_reads' aB.out).2.1); rintro e fK ⟨rfl, hb⟩; refine ⟨_, rfl, ?_⟩; replace aB := q_ (Kd.R_below (kr_ aB.out) hb); replace aE := q_ (Kd.V_below (by (with_reducible repeat (first | apply Kd.V_alloc | apply Kd.V_drewN | apply Kd.V_drew)); exact aE.out) hb); replace aG := q_ (Kd.R_below (kr_ aG.out) hb); replace aM := q_ (Kd.S_below (ks_ aM.out) hb); replace aS := q_ (Kd.R_below (kr_ aS.out) hb); replace aC := q_ (bb_ aC.out hb); replace HB := q_ (below_step (bs_ HB.out aD.out) hb); (try clear hb)))
    go_meet
    case rel => exact ⟨_, (true), rs_, H', ⟨by first | omega | exact Nat.le_refl _⟩, ⟨by (with_reducible repeat (first | apply Kd.R_alloc | apply Kd.R_drewN | apply Kd.R_drew)); exact Kd.R_mono aB.out (fun _ hk => hk.1.2)⟩, ⟨by (with_reducible repeat (first | apply Kd.R_alloc | apply Kd.R_drewN | apply Kd.R_drew)); exact Kd.R_mono aG.out (fun _ hk => hk.1.2)⟩, ⟨by (with_reducible repeat (first | apply Kd.V_alloc | apply Kd.V_drewN | apply Kd.V_drew)); exact Kd.V_mono aE.out (fun _ hk => ⟨hk.1.1.1.1, ⟨hk.1.1.2, hk.1.1.1.2⟩⟩)⟩, ⟨bk_ aC.out⟩, ⟨bs_ HB.out aD.out⟩⟩
   rw [if_pos bQ] at H
   have bD := beq_iff_eq.mpr bQ
   have cA := bne_eq_false_iff_eq.mpr bQ
   clear bQ
   (first | rw [bD] | (simp only [i64_w, i32_w]; rw [bD]) | skip)
   by_cases dC : bT = true
   rotate_left
   ·
    replace dC := Bool.eq_false_iff.mpr dC
    subst dC
    rw [if_neg (show ¬ (false = true) by decide)] at H
    have H' := Aside0.mk H
    clear H
    go_wp2_with (first | ((with_reducible refine gate_callee (f := 10) rfl ?_); refine gl_ (some 43) Try.func10 #[.slice aU aF.length aQ] rfl al_ ?_; (with_reducible refine (spec_RootOf.calls k _ _ aF bL _ ?side1 ?side2 eG.out).mono ?_); (case side1 => exact kc_ (Kd.R_reads' aB.out).2.2); (case side2 => exact (Kd.R_reads' aB.out).2.1); rintro e fL ⟨rfl, hb⟩; refine ⟨_, rfl, ?_⟩; replace aB := q_ (Kd.R_below (kr_ aB.out) hb); replace aE := q_ (Kd.V_below (by (with_reducible repeat (first | apply Kd.V_alloc | apply Kd.V_drewN | apply Kd.V_drew)); exact aE.out) hb); replace aG := q_ (Kd.R_below (kr_ aG.out) hb); replace aM := q_ (Kd.S_below (ks_ aM.out) hb); replace aS := q_ (Kd.R_below (kr_ aS.out) hb); replace aC := q_ (bb_ aC.out hb); replace HB := q_ (below_step (bs_ HB.out aD.out) hb); (try clear hb)))
    go_meet
    case rel => exact ⟨_, (true), rs_, H', ⟨by first | omega | exact Nat.le_refl _⟩, ⟨by (with_reducible repeat (first | apply Kd.R_alloc | apply Kd.R_drewN | apply Kd.R_drew)); exact Kd.R_mono aB.out (fun _ hk => hk.1.2)⟩, ⟨by (with_reducible repeat (first | apply Kd.R_alloc | apply Kd.R_drewN | apply Kd.R_drew)); exact Kd.R_mono aG.out (fun _ hk => hk.1.2)⟩, ⟨by (with_reducible repeat (first | apply Kd.V_alloc | apply Kd.V_drewN | apply Kd.V_drew)); exact Kd.V_mono aE.out (fun _ hk => ⟨hk.1.1.1.1, ⟨hk.1.1.2, hk.1.1.1.2⟩⟩)⟩, ⟨bk_ aC.out⟩, ⟨bs_ HB.out aD.out⟩⟩
   subst dC
   rw [if_pos rfl] at H
   obtain ⟨bS, fG, H⟩ := bo_ H
   have H' := Aside0.mk H
   clear H
   go_wp2_with (first | ((with_reducible refine gate_callee (f := 10) rfl ?_); refine gl_ (some 43) Try.func10 #[.slice aU aF.length aQ] rfl al_ ?_; (with_reducible refine (spec_RootOf.calls k _ _ aF bL _ ?side1 ?side2 eG.out).mono ?_); (case side1 => exact kc_ (Kd.R_reads' aB.out).2.2); (case side2 => exact (Kd.R_reads' aB.out).2.1); rintro e fM ⟨rfl, hb⟩; refine ⟨_, rfl, ?_⟩; replace aB := q_ (Kd.R_below (kr_ aB.out) hb); replace aE := q_ (Kd.V_below (by (with_reducible repeat (first | apply Kd.V_alloc | apply Kd.V_drewN | apply Kd.V_drew)); exact aE.out) hb); replace aG := q_ (Kd.R_below (kr_ aG.out) hb); replace aM := q_ (Kd.S_below (ks_ aM.out) hb); replace aS := q_ (Kd.R_below (kr_ aS.out) hb); replace aC := q_ (bb_ aC.out hb); replace HB := q_ (below_step (bs_ HB.out aD.out) hb); (try clear hb); obtain ⟨fC, eY, dP⟩ := Kd.R_slice aS.out; subst dP; obtain ⟨fB, eX, dO⟩ := Kd.R_slice aG.out; subst dO) | (go_at_call 11; (with_reducible refine (laws_samePairs.calls k _ _ bU _ _ aX bS _ ?side1 ?side2 ?side3 ?side4 fG.out).mono ?_); (case side1 => exact kc_ (Kd.R_reads' aS.out).2.2); (case side2 => exact (Kd.R_reads' aS.out).2.1); (case side3 => exact kc_ (Kd.R_reads' aG.out).2.2); (case side4 => exact (Kd.R_reads' aG.out).2.1); rintro e w' ⟨rfl, ⟨nd, rfl⟩⟩))
   go_meet
   case rel => exact ⟨_, (!bS), rs_, H', ⟨by first | omega | exact Nat.le_refl _⟩, ⟨by (with_reducible repeat (first | apply Kd.R_alloc | apply Kd.R_drewN | apply Kd.R_drew)); exact Kd.R_mono aB.out (fun _ hk => hk.1.2)⟩, ⟨by (with_reducible repeat (first | apply Kd.R_alloc | apply Kd.R_drewN | apply Kd.R_drew)); exact Kd.R_mono aG.out (fun _ hk => hk.1.2)⟩, ⟨by (with_reducible repeat (first | apply Kd.V_alloc | apply Kd.V_drewN | apply Kd.V_drew)); exact Kd.V_mono aE.out (fun _ hk => ⟨hk.1.1.1.1, ⟨hk.1.1.2, hk.1.1.1.2⟩⟩)⟩, ⟨bk_ aC.out⟩, ⟨bs_ HB.out aD.out⟩⟩
  case rest =>
   clear dZ
   obtain ⟨kq, bH, rfl, HA, eN, aT, aL, aA, aC, HB⟩ := hcut
   cases kq with
   | zero => exact absurd HA.out (by simp [laws_FnProved.j0])
   | succ dI =>
    have H := HA.out
    clear HA
    simp only [laws_FnProved.j0] at H
    by_cases dB : bH = true
    · subst dB
      rw [if_pos rfl] at H
      obtain rfl := Option.some.inj H
      go_wp2
      go_ret
      exact ⟨rf_, bs_ HB.out aD.out⟩
    ·
     replace dB := Bool.eq_false_iff.mpr dB
     subst dB
     rw [if_neg (show ¬ (false = true) by decide)] at H
     obtain ⟨⟨bG, aI⟩, fF, H⟩ := bo_ H; try dsimp only at H
     obtain ⟨⟨dG, aJ⟩, fE, H⟩ := bo_ H; try dsimp only at H
     have bR := Aside0.mk H
     clear H
     obtain ⟨cV, cU, cT, cJ, cI, cH⟩ := bx3_ aC.out
     go_upto_region 11 with (first | ((with_reducible refine gate_callee (f := 8) rfl ?_); refine gl_ (some 60) Try.func8 #[.string bB, .string aW, .string aV, .agg #[.int .i64 aN, .int .i64 aO, .slice aZ aK.length aY]] rfl al_ ?_; (with_reducible refine (impl_CheckBetween.calls dI bB aW aV aN aO _ _ aK bG aI _ ?side1 ?side2 fF.out).mono ?_); (case side1 => repeat (first | exact (Kd.V_reads' aA.out).2.2 | (with_reducible refine Kd.C_alloc ?_ _) | (with_reducible refine Kd.C_drewN ?_ _) | (with_reducible refine Kd.C_drew ?_))); (case side2 => exact (Kd.V_reads' aA.out).2.1); rintro e fJ ⟨bK, rfl, aP, hb⟩; refine ⟨_, rfl, ?_⟩; replace aA := q_ (Kd.V_elder' (by (with_reducible repeat (first | apply Kd.V_alloc | apply Kd.V_drewN | apply Kd.V_drew)); exact aA.out) (Kd.R_base aP) hb); have bE := q_ (Kd.R_lower (Kd.R_new' (Kd.R_new' aP (Kd.R_lt (kr_ aT.out))) (Kd.R_lt (kr_ aL.out))) (below_size (bs_ HB.out aD.out))); replace aT := q_ (Kd.R_elder' (kr_ aT.out) (Kd.R_base aP) hb); replace aL := q_ (Kd.R_elder' (kr_ aL.out) (Kd.R_base aP) hb); replace aC := q_ (bb_ aC.out hb); replace HB := q_ (below_step (bs_ HB.out aD.out) hb); (try clear hb); (try clear aP); obtain ⟨cS, cR, cQ, cG, cF, cE⟩ := bx3_ aC.out) | ((with_reducible refine gate_callee (f := 12) rfl ?_); refine gl_ (some 68) Try.func12 #[.string bB, .string aW, .string aV, .agg #[.int .i64 aN, .int .i64 aO, .slice aZ aK.length aY]] rfl al_ ?_; (with_reducible refine (spec_CheckBetween.calls dI bB aW aV aN aO _ _ aK dG aJ _ ?side1 ?side2 fE.out).mono ?_); (case side1 => repeat (first | exact (Kd.V_reads' aA.out).2.2 | (with_reducible refine Kd.C_alloc ?_ _) | (with_reducible refine Kd.C_drewN ?_ _) | (with_reducible refine Kd.C_drew ?_))); (case side2 => exact (Kd.V_reads' aA.out).2.1); rintro e fI ⟨eP, rfl, aP, hb⟩; refine ⟨_, rfl, ?_⟩; replace aA := q_ (Kd.V_elder' (by (with_reducible repeat (first | apply Kd.V_alloc | apply Kd.V_drewN | apply Kd.V_drew)); exact aA.out) (Kd.R_base aP) hb); have eM := q_ (Kd.R_lower (Kd.R_new' (Kd.R_new' (Kd.R_new' aP (Kd.R_lt (kr_ aT.out))) (Kd.R_lt (kr_ aL.out))) (Kd.R_lt (kr_ bE.out))) (below_size (bs_ HB.out aD.out))); replace aT := q_ (Kd.R_elder' (kr_ aT.out) (Kd.R_base aP) hb); replace aL := q_ (Kd.R_elder' (kr_ aL.out) (Kd.R_base aP) hb); replace bE := q_ (Kd.R_elder' (kr_ bE.out) (Kd.R_base aP) hb); replace aC := q_ (bb_ aC.out hb); replace HB := q_ (below_step (bs_ HB.out aD.out) hb); (try clear hb); (try clear aP)))
     (try simp only [Act.put, sa_, sz_, ss_])
     go_cut [77] (fun eT wc => ∃ (kq : Nat) (bA : Bool), eT = .bool bA ∧ Aside0 (laws_FnProved.j1 kq aF aX bG aI aJ bA aN aO aK = some r) ∧ Aside0 (kq ≤ dI) ∧ Aside0 (Kd.R k45 45 wc w.heap.size (fun k_ => some k_ ≠ (bF : Value).ownBlock ∧ some k_ ≠ (bK : Value).ownBlock) (.slice aU aF.length aQ) aF) ∧ Aside0 (Kd.R k45 45 wc w.heap.size (fun k_ => some k_ ≠ ((.slice aU aF.length aQ) : Value).ownBlock ∧ some k_ ≠ (bK : Value).ownBlock) bF aX) ∧ Aside0 (Kd.R k45 45 wc w.heap.size (fun k_ => some k_ ≠ ((.slice aU aF.length aQ) : Value).ownBlock ∧ some k_ ≠ (bF : Value).ownBlock) bK bG) ∧ Aside0 (Kd.V k52 52 wc w.heap.size (fun k_ => some k_ ≠ ((.slice aU aF.length aQ) : Value).ownBlock ∧ some k_ ≠ (bF : Value).ownBlock ∧ some k_ ≠ (bK : Value).ownBlock ∧ k_ ≠ aH) (.slice aZ aK.length aY) aK) ∧ Aside0 (wc.heap[aH]? = some (.cells #[.int .i64 aN, .int .i64 aO, (.slice aZ aK.length aY)] 27 (0, 0))) ∧ Aside0 (Below w.heap.size w wc))
     case first =>
      have H := bR.out
      clear bR
      by_cases bJ : (aI != aJ) = true
      rotate_left
      ·
       rw [if_neg bJ] at H
       have bC : (aI != aJ) = false := by simpa using bJ
       (try (have bZ : decide (aI = aJ) = true := by simpa using bJ))
       (try (have bY : (aI == aJ) = true := by simpa using bJ))
       clear bJ
       (first | rw [bC] | (simp only [i64_w, i32_w]; rw [bC]) | skip)
       have H' := Aside0.mk H
       clear H
       go_wp2
       go_meet
       case rel => exact ⟨_, (!aI), rs_, H', ⟨by have := eN.out; first | omega | exact Nat.le_refl _⟩, ⟨by (with_reducible repeat (first | apply Kd.R_alloc | apply Kd.R_drewN | apply Kd.R_drew)); exact Kd.R_mono aT.out (fun _ hk => ⟨hk.1.1, hk.1.2⟩)⟩, ⟨by (with_reducible repeat (first | apply Kd.R_alloc | apply Kd.R_drewN | apply Kd.R_drew)); exact Kd.R_mono aL.out (fun _ hk => ⟨hk.1.1, hk.1.2⟩)⟩, ⟨by (with_reducible repeat (first | apply Kd.R_alloc | apply Kd.R_drewN | apply Kd.R_drew)); exact Kd.R_mono bE.out (fun _ hk => ⟨hk.1.1.2, hk.1.2⟩)⟩, ⟨by (with_reducible repeat (first | apply Kd.V_alloc | apply Kd.V_drewN | apply Kd.V_drew)); exact Kd.V_mono aA.out (fun _ hk => ⟨hk.1.1.1, ⟨hk.1.1.2.1, ⟨hk.1.2, hk.1.1.2.2⟩⟩⟩)⟩, ⟨bk_ aC.out⟩, ⟨bs_ HB.out aD.out⟩⟩
      rw [if_pos bJ] at H
      have bC : (aI != aJ) = true := bJ
      (try (have bZ : decide (aI = aJ) = false := by simpa using bJ))
      (try (have bY : (aI == aJ) = false := by simpa using bJ))
      (try (have eL : ¬ (aI = aJ) := by simpa using bJ))
      clear bJ
      (first | rw [bC] | (simp only [i64_w, i32_w]; rw [bC]) | skip)
      have H' := Aside0.mk H
      clear H
      go_wp2
      go_meet
      case rel => exact ⟨_, (true), rs_, H', ⟨by have := eN.out; first | omega | exact Nat.le_refl _⟩, ⟨by (with_reducible repeat (first | apply Kd.R_alloc | apply Kd.R_drewN | apply Kd.R_drew)); exact Kd.R_mono aT.out (fun _ hk => ⟨hk.1.1, hk.1.2⟩)⟩, ⟨by (with_reducible repeat (first | apply Kd.R_alloc | apply Kd.R_drewN | apply Kd.R_drew)); exact Kd.R_mono aL.out (fun _ hk => ⟨hk.1.1, hk.1.2⟩)⟩, ⟨by (with_reducible repeat (first | apply Kd.R_alloc | apply Kd.R_drewN | apply Kd.R_drew)); exact Kd.R_mono bE.out (fun _ hk => ⟨hk.1.1.2, hk.1.2⟩)⟩, ⟨by (with_reducible repeat (first | apply Kd.V_alloc | apply Kd.V_drewN | apply Kd.V_drew)); exact Kd.V_mono aA.out (fun _ hk => ⟨hk.1.1.1, ⟨hk.1.1.2.1, ⟨hk.1.2, hk.1.1.2.2⟩⟩⟩)⟩, ⟨bk_ aC.out⟩, ⟨bs_ HB.out aD.out⟩⟩
     case rest =>
      clear bR
      obtain ⟨kq, bA, rfl, HA, eZ, aT, aL, aR, aA, aC, HB⟩ := hcut
      cases kq with
      | zero => exact absurd HA.out (by simp [laws_FnProved.j1])
      | succ bP =>
       have H := HA.out
       clear HA
       simp only [laws_FnProved.j1] at H
       by_cases dA : bA = true
       · subst dA
         rw [if_pos rfl] at H
         by_cases bI : (aI == aJ) = true
         · rw [if_pos bI] at H
           have bX : (aI == aJ) = true := bI
           (try (have bW : decide (aI = aJ) = true := by simpa using bI))
           (try (have bV : (aI == aJ) = true := by simpa using bI))
           clear bI
           obtain rfl := Option.some.inj H
           obtain ⟨fA, eW, dN⟩ := Kd.R_slice aR.out
           subst dN
           go_wp2
           go_ret
           exact ⟨rf_, bs_ HB.out aD.out⟩
         rw [if_neg bI] at H
         have bX : (aI == aJ) = false := by simpa using bI
         (try (have bW : decide (aI = aJ) = false := by simpa using bI))
         (try (have bV : (aI == aJ) = false := by simpa using bI))
         (try (have eK : ¬ (aI = aJ) := by simpa using bI))
         clear bI
         obtain rfl := Option.some.inj H
         go_wp2
         go_ret
         exact ⟨rf_, bs_ HB.out aD.out⟩
       · replace dA := Bool.eq_false_iff.mpr dA
         subst dA
         rw [if_neg (show ¬ (false = true) by decide)] at H
         obtain ⟨dF, eO, H⟩ := bo_ H
         by_cases cZ : dF = true
         · subst cZ
           rw [if_pos rfl] at H
           obtain rfl := Option.some.inj H
           obtain ⟨eE, dW, dM⟩ := Kd.R_slice aR.out
           subst dM
           obtain ⟨eD, dV, dL⟩ := Kd.R_slice aL.out
           subst dL
           go_wp2_with (first | ((with_reducible refine gate_callee (f := 11) rfl ?_); refine gl_ (some 88) Try.func11 #[.slice eE bG.length dW, .slice eD aX.length dV] rfl al_ ?_; (with_reducible refine (laws_samePairs.calls bP _ _ bG _ _ aX true _ ?side1 ?side2 ?side3 ?side4 eO.out).mono ?_); (case side1 => exact kc_ (Kd.R_reads' aR.out).2.2); (case side2 => exact (Kd.R_reads' aR.out).2.1); (case side3 => exact kc_ (Kd.R_reads' aL.out).2.2); (case side4 => exact (Kd.R_reads' aL.out).2.1); rintro e w' ⟨rfl, ⟨nd, rfl⟩⟩; refine ⟨_, rfl, ?_⟩))
           go_ret
           exact ⟨rf_, bs_ HB.out aD.out⟩
         · replace cZ := Bool.eq_false_iff.mpr cZ
           subst cZ
           rw [if_neg (show ¬ (false = true) by decide)] at H
           obtain ⟨dE, fD, H⟩ := bo_ H
           obtain rfl := Option.some.inj H
           obtain ⟨eC, dU, dK⟩ := Kd.R_slice aR.out
           subst dK
           obtain ⟨eB, dT, dJ⟩ := Kd.R_slice aL.out
           subst dJ
           go_wp2_with (first | ((with_reducible refine gate_callee (f := 11) rfl ?_); refine gl_ (some 88) Try.func11 #[.slice eC bG.length dU, .slice eB aX.length dT] rfl al_ ?_; (with_reducible refine (laws_samePairs.calls bP _ _ bG _ _ aX false _ ?side1 ?side2 ?side3 ?side4 eO.out).mono ?_); (case side1 => exact kc_ (Kd.R_reads' aR.out).2.2); (case side2 => exact (Kd.R_reads' aR.out).2.1); (case side3 => exact kc_ (Kd.R_reads' aL.out).2.2); (case side4 => exact (Kd.R_reads' aL.out).2.1); rintro e w' ⟨rfl, ⟨nd, rfl⟩⟩; refine ⟨_, rfl, ?_⟩; obtain ⟨cP, cO, cN, cD, cC, cB⟩ := bx3_ aC.out) | (go_at_call 13; (with_reducible refine (laws_clashIn.calls bP _ _ aF aN aO _ _ aK dE _ ?side1 ?side2 ?side3 ?side4 fD.out).mono ?_); (case side1 => exact kc_ (Kd.R_reads' aT.out).2.2); (case side2 => exact (Kd.R_reads' aT.out).2.1); (case side3 => repeat (first | exact (Kd.V_reads' aA.out).2.2 | (with_reducible refine Kd.C_alloc ?_ _) | (with_reducible refine Kd.C_drewN ?_ _) | (with_reducible refine Kd.C_drew ?_))); (case side4 => exact (Kd.V_reads' aA.out).2.1); rintro e fH ⟨rfl, hb⟩; replace aT := q_ (Kd.R_below (kr_ aT.out) hb); replace aL := q_ (Kd.R_below (kr_ aL.out) hb); replace aR := q_ (Kd.R_below (kr_ aR.out) hb); replace aA := q_ (Kd.V_below (by (with_reducible repeat (first | apply Kd.V_alloc | apply Kd.V_drewN | apply Kd.V_drew)); exact aA.out) hb); replace aC := q_ (bb_ aC.out hb); replace HB := q_ (below_step (bs_ HB.out aD.out) hb); (try clear hb)))
           go_ret
           exact ⟨rf_, bs_ HB.out aD.out⟩
end
end Go.Proofs.Ytgmfhchhbidlnaa.P