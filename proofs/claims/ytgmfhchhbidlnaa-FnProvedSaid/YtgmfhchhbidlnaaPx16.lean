import Derived.Test.YtgmfhchhbidlnaaStr
import Derived.Test.YtgmfhchhbidlnaaPx0
import Derived.Test.YtgmfhchhbidlnaaPx1
import Derived.Test.YtgmfhchhbidlnaaPx6
import Derived.Test.YtgmfhchhbidlnaaPx15
namespace Go.Proofs.Ytgmfhchhbidlnaa.P
open Go.RowKit Go.Proofs.YtgmfhchhbidlnaaW.PrintWords Go.Proofs.YtgmfhchhbidlnaaW.PrintLast Go.Proofs.YtgmfhchhbidlnaaW.PrintMore
attribute [local go_sem] max2_int min2_int max_two min_two max_three min_three max_four min_four
set_option linter.unusedVariables false
set_option maxHeartbeats 8000000
set_option maxRecDepth 100000
set_option linter.unusedSimpArgs false
mutual
def spec_l4Hashed.j0 : Nat → List Int → Int → List ByteArray → ByteArray → Int → Int → Int → Option (List ByteArray × Bool)
 | 0, _, _, _, _, _, _, _ => none
 | k + 1, x0, x1, x3, aF, aI, aH, aG => if 0 ≤ (wrap64 ((x3.length : Int) - 1)) then (if (wrap64 ((x3.length : Int) - 1)) ≤ (x3.length : Int) then ((spec_l4Hashed.f k x0 aG aH (x3.take ((wrap64 ((x3.length : Int) - 1)) : Int).toNat)).bind fun aA => (if aA.2 = true then (if 0 ≤ (wrap64 ((aA.1.length : Int) - 1)) then (if (wrap64 ((aA.1.length : Int) - 1)) < (aA.1.length : Int) then (if (rdOf ByteArray.empty aA.1 (wrap64 ((aA.1.length : Int) - 1))).size ≤ 9223372036854775807 then ((spec_Digest.f k (bytesOf (rdOf ByteArray.empty aA.1 (wrap64 ((aA.1.length : Int) - 1))))).bind fun aC => (if x1 < aI then ((spec_l4Node.f aC aF).bind fun aE => (if aA.1.length < 8796093022208 then (some ((aA.1 ++ [strOfNums aE]), true)) else (none))) else ((spec_l4Node.f aF aC).bind fun aD => (if aA.1.length < 8796093022208 then (some ((aA.1 ++ [strOfNums aD]), true)) else (none))))) else (none)) else (none)) else (none)) else (some ((([] : List ByteArray)), false)))) else (none)) else (none)
def spec_l4Hashed.f : Nat → List Int → Int → Int → List ByteArray → Option (List ByteArray × Bool)
 | 0, _, _, _, _ => none
 | k + 1, l0, a1, a2, l3 => if a2 < 2 then (some ((([strOfNums l0] : List ByteArray)), ((l3.length : Int) == 0))) else (if (l3.length : Int) = 0 then (some ((([] : List ByteArray)), false)) else (if 0 ≤ (wrap64 ((l3.length : Int) - 1)) then (if (wrap64 ((l3.length : Int) - 1)) < (l3.length : Int) then ((spec_l4Half.f k a2).bind fun aB => (if a1 ≥ aB then (spec_l4Hashed.j0 k l0 a1 l3 (rdOf ByteArray.empty l3 (wrap64 ((l3.length : Int) - 1))) aB (wrap64 (a2 - aB)) (wrap64 (a1 - aB))) else (spec_l4Hashed.j0 k l0 a1 l3 (rdOf ByteArray.empty l3 (wrap64 ((l3.length : Int) - 1))) aB aB a1))) else (none)) else (none)))
end
theorem spec_l4Hashed.calls (k : Nat) : ∀ (A0 : Option Addr) (c0 : Nat) (l0 : List Int) (a1 : Int) (a2 : Int) (A3 : Option Addr) (c3 : Nat) (l3 : List ByteArray) (r1 : List ByteArray) (r2 : Bool) (w : World) (dT : Kd.C (Kd.int .u8) w A0 l0.length l0) (eB : l0.length ≤ c0) (dS : Kd.C Kd.string w A3 l3.length l3) (eA : l3.length ≤ c3) (h : spec_l4Hashed.f k l0 a1 a2 l3 = some (r1, r2)),
 Calls Try.prog 89 #[.slice A0 l0.length c0, .int .i64 a1, .int .i64 a2, .slice A3 l3.length c3] w fun e w' => ∃ v0_ : Value, e = .returned (.tuple #[v0_, .bool r2]) ∧ Kd.R Kd.string 9 w' w.heap.size (fun _ => True) v0_ r1 ∧ Below w.heap.size w w' := by
 induction k using Nat.strongRecOn with
 | _ k ih =>
 intro A0 c0 l0 a1 a2 A3 c3 l3 r1 r2 w dT eB dS eA h
 cases k with
 | zero => exact absurd h (by simp [spec_l4Hashed.f])
 | succ k =>
 simp only [spec_l4Hashed.f] at h
 have dE := Aside0.mk dT
 have eL := Aside0.mk eB
 clear dT eB
 have dN := Aside0.mk dS
 have eK := Aside0.mk eA
 clear dS eA
 have HB := q_ (Below.refl w.heap.size w)
 have H : (if a2 < 2 then (some ((([strOfNums l0] : List ByteArray)), ((l3.length : Int) == 0))) else (if (l3.length : Int) = 0 then (some ((([] : List ByteArray)), false)) else (if 0 ≤ (wrap64 ((l3.length : Int) - 1)) then (if (wrap64 ((l3.length : Int) - 1)) < (l3.length : Int) then ((spec_l4Half.f k a2).bind fun aI => (if a1 ≥ aI then (spec_l4Hashed.j0 k l0 a1 l3 (rdOf ByteArray.empty l3 (wrap64 ((l3.length : Int) - 1))) aI (wrap64 (a2 - aI)) (wrap64 (a1 - aI))) else (spec_l4Hashed.j0 k l0 a1 l3 (rdOf ByteArray.empty l3 (wrap64 ((l3.length : Int) - 1))) aI aI a1))) else (none)) else (none)))) = some (r1, r2) := h
 clear h
 by_cases c5 : a2 < 2
 ·
  rw [if_pos c5] at H
  have eH := decide_eq_true c5
  clear c5
  obtain ⟨fE, bK⟩ : ∃ y_ : List ByteArray, y_ = (([strOfNums l0] : List ByteArray)) := ⟨_, rfl⟩
  rw [← bK] at H
  have cB := Aside0.mk bK
  clear bK
  simp only [Option.some.injEq, Prod.mk.injEq] at H
  obtain ⟨rfl, rfl⟩ := H
  have dW := Kd.C_string (P := Try.prog) (A := A0) (c := c0) Try.underlying22 Try.underlying5 Try.underlying9 dE.out
  have eM := fun n_ => Kd.C_string (P := Try.prog) (A := A0) (c := c0) Try.underlying22 Try.underlying5 Try.underlying9 (Kd.C_drewN dE.out n_)
  go_enter Try.func89, Try.ntmps89
  go_wp2_with (first | ((with_reducible refine gate_dst (N := 21) rfl ?_); refine Kd.R_lit Kd.string _ 9 ?hg (N := 21) ?hd (xs := ([strOfNums l0] : List ByteArray)) (inner := [.string (strOfNums l0)]) (ok := fun _ => True) (okp := fun _ => True) ?hr ?hp (fun _ hk => hk) trivial (Below.refl _ _) (Nat.le_refl _) (by simp) ?_; (case hd => rfl); (case hg => rfl); (case hr => first | (go_simp; done) | (go_simp; rfl)); (case hp => exact (Reps.one (show Kd.M Kd.string _ _ _ (strOfNums l0) [.string (strOfNums l0)] from rfl) (Reps.none _ _))); intro fL w8 cQ hb hg_ hnew_; clear hg_ hnew_; (first | rw [← cB.out] at cQ | (simp only [Int.reduceToNat] at cQ; rw [← cB.out] at cQ)); have dJ := q_ (Kd.R_lower cQ (below_size (be_ HB.out))); replace HB := q_ (below_step (be_ HB.out) hb); clear hb cQ))
  go_ret2
  exact ⟨_, rf_, kr_ dJ.out, be_ HB.out⟩
 ·
  rw [if_neg c5] at H
  have eH := decide_eq_false c5
  clear c5
  by_cases bX : (l3.length : Int) = 0
  ·
   rw [if_pos bX] at H
   have cZ := beq_iff_eq.mpr bX
   have cY := bne_eq_false_iff_eq.mpr bX
   clear bX
   obtain ⟨dQ, bJ⟩ : ∃ y_ : List ByteArray, y_ = (([] : List ByteArray)) := ⟨_, rfl⟩
   replace H : (some (dQ, false)) = some (r1, r2) := ry_ bJ H
   have cA := Aside0.mk bJ
   clear bJ
   simp only [Option.some.injEq, Prod.mk.injEq] at H
   obtain ⟨rfl, rfl⟩ := H
   go_enter Try.func89, Try.ntmps89
   go_wp2_with (first | ((with_reducible refine gate_dst (N := 28) rfl ?_); refine Kd.R_lit Kd.string _ 9 ?hg (N := 28) ?hd (xs := ([] : List ByteArray)) (inner := []) (ok := fun _ => True) (okp := fun _ => True) ?hr ?hp (fun _ hk => hk) trivial (Below.refl _ _) (Nat.le_refl _) (by simp) ?_; (case hd => rfl); (case hg => rfl); (case hr => first | (go_simp; done) | (go_simp; rfl)); (case hp => exact (Reps.none _ _)); intro fK gJ bL hb hg_ hnew_; clear hg_ hnew_; (first | rw [← cA.out] at bL | (simp only [Int.reduceToNat] at bL; rw [← cA.out] at bL)); have dI := q_ (Kd.R_lower bL (below_size (be_ HB.out))); replace HB := q_ (below_step (be_ HB.out) hb); clear hb bL))
   go_ret2
   exact ⟨_, rf_, kr_ dI.out, be_ HB.out⟩
  ·
   rw [if_neg bX] at H
   have cZ := beq_eq_false_iff_ne.mpr bX
   have cY := bne_iff_ne.mpr bX
   have fA : ¬ (l3 = []) := fun h_ => bX (by rw [h_]; rfl)
   obtain ⟨aR, aK⟩ : ∃ j_ : Int, (wrap64 ((l3.length : Int) - 1)) = j_ := ⟨_, rfl⟩
   first | rw [aK] at H | simp only [aK] at H
   have cE : (IntKind.i64.wrap ((l3.length : Int) - 1)) = aR := (i64_w _).trans aK
   obtain ⟨eZ, H⟩ := id_ H
   obtain ⟨eY, H⟩ := id_ H
   obtain ⟨aI, fW, H⟩ := bo_ H
   have cJ := Aside0.mk H
   clear H
   have cD : 0 ≤ ((aR) : Int) := od_
   have cC : (aR) < (l3.length : Int) := od_
   obtain ⟨aQ, eE, dK⟩ := Kd.at_string dN.out (aR) cD cC
   cases eE
   replace cD := eq_true cD
   replace cC := eq_true cC
   go_enter Try.func89, Try.ntmps89
   go_upto_if 41 with (first | ((with_reducible refine gate_callee (f := 62) rfl ?_); refine gl_ (some 36) Try.func62 #[.int .i64 a2] rfl al_ ?_; (with_reducible refine (spec_l4Half.calls k a2 aI _ fW.out).mono ?_); rintro e w' ⟨rfl, ⟨nd, rfl⟩⟩; refine ⟨_, rfl, ?_⟩))
   (try simp only [Act.put, sa_, sz_, ss_])
   go_cut [12, 13] (fun fN fM wc => ∃ (kq : Nat) (aG : Int) (aE : Int), fN = .int .i64 aG ∧ fM = .int .i64 aE ∧ Aside0 (spec_l4Hashed.j0 kq l0 a1 l3 (rdOf ByteArray.empty l3 (aR)) aI aG aE = some (r1, r2)) ∧ Aside0 (kq ≤ k) ∧ Aside0 (Below w.heap.size w wc))
   case first =>
    have H := cJ.out
    clear cJ
    by_cases cL : a1 ≥ aI
    rotate_left
    ·
     rw [if_neg cL] at H
     have aT : decide (aI ≤ a1) = false := decide_eq_false cL
     clear cL
     (first | rw [aT] | (simp only [i64_w, i32_w]; rw [aT]) | skip)
     have H' := Aside0.mk H
     clear H
     go_wp2
     go_meet
     case rel => exact ⟨_, (aI), (a1), rs_, rs_, H', ⟨by first | omega | exact Nat.le_refl _⟩, ⟨be_ HB.out⟩⟩
    rw [if_pos cL] at H
    have aT : decide (aI ≤ a1) = true := decide_eq_true cL
    clear cL
    (first | rw [aT] | (simp only [i64_w, i32_w]; rw [aT]) | skip)
    have H' := Aside0.mk H
    clear H
    go_wp2
    go_meet
    case rel => exact ⟨_, (wrap64 (a2 - aI)), (wrap64 (a1 - aI)), rs_, rs_, H', ⟨by first | omega | exact Nat.le_refl _⟩, ⟨be_ HB.out⟩⟩
   case rest =>
    clear cJ
    try clear dW
    try clear fR
    obtain ⟨kq, aG, aE, rfl, rfl, HA, cI, HB⟩ := hcut
    cases kq with
    | zero => exact absurd HA.out (by simp [spec_l4Hashed.j0])
    | succ bE =>
     have H := HA.out
     clear HA
     simp only [spec_l4Hashed.j0] at H
     obtain ⟨aD, aJ⟩ : ∃ j_ : Int, (wrap64 ((l3.length : Int) - 1)) = j_ := ⟨_, rfl⟩
     (try clear cE); (try clear aK)
     first | rw [aJ] at H | simp only [aJ] at H
     have dV : (IntKind.i64.wrap ((l3.length : Int) - 1)) = aD := (i64_w _).trans aJ
     obtain ⟨eJ, H⟩ := ip_ H
     have eX := eq_true eJ
     have eW : decide (0 ≤ (aD)) = true := decide_eq_true eJ
     clear eJ
     obtain ⟨eI, H⟩ := ip_ H
     have eV := eq_true eI
     have eU : decide ((aD) ≤ (l3.length : Int)) = true := decide_eq_true eI
     clear eI
     obtain ⟨⟨aH, dR⟩, dO, H⟩ := bo_ H; try dsimp only at H
     by_cases dM : dR = true
     ·
      subst dM
      rw [if_pos rfl] at H
      obtain ⟨aM, aN⟩ : ∃ j_ : Int, (wrap64 ((aH.length : Int) - 1)) = j_ := ⟨_, rfl⟩
      first | rw [aN] at H | simp only [aN] at H
      (try rw [aN] at dO)
      have dU : (IntKind.i64.wrap ((aH.length : Int) - 1)) = aM := (i64_w _).trans aN
      obtain ⟨eT, H⟩ := id_ H
      obtain ⟨eS, H⟩ := id_ H
      obtain ⟨dL, H⟩ := ip_ H
      have eR := eq_true dL
      have eQ : decide ((rdOf ByteArray.empty aH (aM)).size ≤ 9223372036854775807) = true := decide_eq_true dL
      try have eP : (9223372036854775807 < (rdOf ByteArray.empty aH (aM)).size) = False := eq_false (Nat.not_lt.2 dL)
      clear dL
      obtain ⟨bB, bH⟩ : ∃ y_ : List Int, y_ = (bytesOf (rdOf ByteArray.empty aH (aM))) := ⟨_, rfl⟩
      rw [← bH] at H
      have bY := Aside0.mk bH
      clear bH
      obtain ⟨bC, fB, H⟩ := bo_ H
      by_cases cK : a1 < aI
      ·
       rw [if_pos cK] at H
       have cX := decide_eq_true cK
       clear cK
       obtain ⟨bP, fV, H⟩ := bo_ H
       obtain ⟨dD, H⟩ := ia_ H
       obtain ⟨fD, bG⟩ : ∃ y_ : List ByteArray, y_ = (aH ++ [strOfNums bP]) := ⟨_, rfl⟩
       rw [← bG] at H
       have dB := Aside0.mk bG
       clear bG
       simp only [Option.some.injEq, Prod.mk.injEq] at H
       obtain ⟨rfl, rfl⟩ := H
       obtain ⟨fQ, bW, _, bT, _⟩ := info_parts info9
       obtain ⟨dZ, cW, cT⟩ := print_take_of (P := Try.prog) Value.string (⟨#[]⟩ : ByteArray) 50 9 .i64 Try.underlying50 bW bT (some aQ) c3 l3 (aD) od_ od_ eK.out
       have aU := q_ (Kd.C_of_reads (h1 := fun _ => rfl) (cW _ (Kd.reads_of_C dN.out)))
       have aV := Aside0.mk cT
       clear cW cT bW bT
       go_wp2_with (first | ((with_reducible refine gate_callee (f := 89) rfl ?_); refine gl_ (some 57) Try.func89 #[.slice A0 l0.length c0, .int .i64 aE, .int .i64 aG, .slice (some aQ) (l3.take ((aD) : Int).toNat).length c3] rfl (by (try simp only [List.map_toArray, List.map_cons, List.map_nil]); first | done | (rw [show (l3.take ((aD) : Int).toNat).length = (aD).toNat from (by rw [List.length_take]; have h_ : ((aD) : Int) ≤ (l3.length : Int) := od_; omega)] <;> rfl) | (simp only [aJ]; rfl) | rfl | (simp only [List.length_drop, List.length_take]; rfl)) ?_; (with_reducible refine (ih bE (by have := cI.out; omega) _ _ l0 aE aG _ _ (l3.take ((aD) : Int).toNat) aH true _ ?side1 ?side2 ?side3 ?side4 dO.out).mono ?_); (case side1 => exact kc_ (Kd.C_below dE.out HB.out)); (case side2 => exact eL.out); (case side3 => exact kc_ (Kd.C_below aU.out HB.out)); (case side4 => exact aV.out); rintro e gI ⟨cM, rfl, aY, hb⟩; refine ⟨_, rfl, ?_⟩; have aA := q_ (Kd.R_lower aY (below_size (be_ HB.out))); replace HB := q_ (below_step (be_ HB.out) hb); (try clear hb); (try clear aY); obtain ⟨fT, eG, eD⟩ := Kd.R_slice aA.out; subst eD; have aX : 0 ≤ ((aM) : Int) := od_; have aW : (aM) < (aH.length : Int) := od_; obtain ⟨bM, cG, bQ⟩ := Kd.at_string (Kd.R_reads' aA.out).2.2 (aM) aX aW; cases cG; replace aX := eq_true aX; replace aW := eq_true aW) | ((with_reducible refine gate_dst (N := 69) rfl ?_); refine Kd.conv_event rfl 9 22 5 _ (rdOf ByteArray.empty aH (aM)) bB rfl rfl Try.underlying9 Try.underlying22 Try.underlying5 bY.out od_ ?_; intro cF cH gH hr_ hc_ hb; replace aA := q_ (Kd.R_below (kr_ aA.out) hb); replace HB := q_ (below_step (be_ HB.out) hb); have aC := q_ (hr_); have bN := q_ (hc_); clear hb hr_ hc_) | ((with_reducible refine gate_callee (f := 51) rfl ?_); refine gl_ (some 70) Try.func51 #[.slice (some ⟨cF, 0, none⟩) bB.length cH] rfl al_ ?_; (with_reducible refine (spec_Digest.calls bE _ _ bB bC _ ?side1 ?side2 fB.out).mono ?_); (case side1 => repeat (first | exact (by repeat (first | (with_reducible exact aC.out) | (with_reducible refine Kd.C_alloc ?_ _) | (with_reducible refine Kd.C_drewN ?_ _) | (with_reducible refine Kd.C_drew ?_) | exact aC.out)) | (with_reducible refine Kd.C_alloc ?_ _) | (with_reducible refine Kd.C_drewN ?_ _) | (with_reducible refine Kd.C_drew ?_))); (case side2 => exact bN.out); rintro e gG ⟨rfl, hb⟩; refine ⟨_, rfl, ?_⟩; replace aA := q_ (Kd.R_below (kr_ aA.out) hb); replace aC := q_ (Kd.C_below (by repeat (first | (with_reducible exact aC.out) | (with_reducible refine Kd.C_alloc ?_ _) | (with_reducible refine Kd.C_drewN ?_ _) | (with_reducible refine Kd.C_drew ?_) | exact aC.out)) hb); replace HB := q_ (below_step (be_ HB.out) hb); (try clear hb)) | ((with_reducible refine gate_callee (f := 88) rfl ?_); refine gl_ (some 77) Try.func88 #[.string bC, .string (rdOf ByteArray.empty l3 (aR))] rfl (by (try simp only [List.map_toArray, List.map_cons, List.map_nil]); first | done | (simp only [aK]; rfl) | rfl | (simp only [List.length_drop, List.length_take]; rfl)) ?_; (with_reducible refine (spec_l4Node.calls bC (rdOf ByteArray.empty l3 (aR)) bP _ fV.out).mono ?_); rintro e gF ⟨fI, rfl, aY, hb⟩; refine ⟨_, rfl, ?_⟩; replace aA := q_ (Kd.R_below (kr_ aA.out) hb); have bA := q_ (Kd.R_lower aY (below_size (be_ HB.out))); replace aC := q_ (Kd.C_below (by repeat (first | (with_reducible exact aC.out) | (with_reducible refine Kd.C_alloc ?_ _) | (with_reducible refine Kd.C_drewN ?_ _) | (with_reducible refine Kd.C_drew ?_) | exact aC.out)) hb); replace HB := q_ (below_step (be_ HB.out) hb); (try clear hb); (try clear aY); have eO := own_string (P := Try.prog) Try.underlying22 Try.underlying5 Try.underlying9 (Kd.own_of_R bA.out)) | ((with_reducible refine gate_builtin (b := .append) (xs := #[.tmp 74, .tmp 79]) rfl ?_); at_builtin; refine Kd.R_append Kd.string (w0 := w) w.heap.size rfl (.tmp 74) (.tmp 79) 50 9 (.string ⟨#[]⟩) 16 rfl Try.underlying50 info9 rfl (by decide) (by omega) (.slice (some bM) aH.length eG) aH (strOfNums bP) [.string (strOfNums bP)] (fun _ => True) (fun _ => False) rfl rfl ?aP (fun _ hk => hk.elim) ?aF ?aO ?aB ?aS ?aL ?_; (case aP => exact rfl); (case aB => exact (be_ HB.out)); (case aF => exact (fun _ _ => trivial)); (case aO => exact (kr_ aA.out)); (case aS => exact (below_size (be_ HB.out))); (case aL => have := dD.out; omega); intro fH gE ho hb hg hat; rw [← dB.out] at ho; have cP := q_ (Kd.R_over' (kr_ bA.out) (Kd.R_typed (kr_ aA.out)) (by decide) hg); have cO := q_ (hb); have cN := q_ (ho); clear bA; clear HB; clear aA; have bA := cP; have HB := cO; have dG := cN; clear cP cO cN; clear ho hb hg hat))
       go_ret2
       exact ⟨_, by first | rfl | (simp [errW_none, errW_some] <;> rfl) | (simp only [← aK, ← aJ, ← aN]; first | rfl | (simp [errW_none, errW_some] <;> rfl)) | (simp [*, errW_none, errW_some] <;> rfl), kr_ dG.out, be_ HB.out⟩
      rw [if_neg cK] at H
      have cX := decide_eq_false cK
      clear cK
      obtain ⟨bO, fU, H⟩ := bo_ H
      obtain ⟨dC, H⟩ := ia_ H
      obtain ⟨fC, bF⟩ : ∃ y_ : List ByteArray, y_ = (aH ++ [strOfNums bO]) := ⟨_, rfl⟩
      rw [← bF] at H
      have dA := Aside0.mk bF
      clear bF
      simp only [Option.some.injEq, Prod.mk.injEq] at H
      obtain ⟨rfl, rfl⟩ := H
      obtain ⟨fP, bV, _, bS, _⟩ := info_parts info9
      obtain ⟨dY, cV, cS⟩ := print_take_of (P := Try.prog) Value.string (⟨#[]⟩ : ByteArray) 50 9 .i64 Try.underlying50 bV bS (some aQ) c3 l3 (aD) od_ od_ eK.out
      have aU := q_ (Kd.C_of_reads (h1 := fun _ => rfl) (cV _ (Kd.reads_of_C dN.out)))
      have aV := Aside0.mk cS
      clear cV cS bV bS
      go_wp2_with (first | ((with_reducible refine gate_callee (f := 89) rfl ?_); refine gl_ (some 57) Try.func89 #[.slice A0 l0.length c0, .int .i64 aE, .int .i64 aG, .slice (some aQ) (l3.take ((aD) : Int).toNat).length c3] rfl (by (try simp only [List.map_toArray, List.map_cons, List.map_nil]); first | done | (rw [show (l3.take ((aD) : Int).toNat).length = (aD).toNat from (by rw [List.length_take]; have h_ : ((aD) : Int) ≤ (l3.length : Int) := od_; omega)] <;> rfl) | (simp only [aJ]; rfl) | rfl | (simp only [List.length_drop, List.length_take]; rfl)) ?_; (with_reducible refine (ih bE (by have := cI.out; omega) _ _ l0 aE aG _ _ (l3.take ((aD) : Int).toNat) aH true _ ?side1 ?side2 ?side3 ?side4 dO.out).mono ?_); (case side1 => exact kc_ (Kd.C_below dE.out HB.out)); (case side2 => exact eL.out); (case side3 => exact kc_ (Kd.C_below aU.out HB.out)); (case side4 => exact aV.out); rintro e gD ⟨cM, rfl, aY, hb⟩; refine ⟨_, rfl, ?_⟩; have aA := q_ (Kd.R_lower aY (below_size (be_ HB.out))); replace HB := q_ (below_step (be_ HB.out) hb); (try clear hb); (try clear aY); obtain ⟨fS, eF, eC⟩ := Kd.R_slice aA.out; subst eC; have aX : 0 ≤ ((aM) : Int) := od_; have aW : (aM) < (aH.length : Int) := od_; obtain ⟨bM, cG, bQ⟩ := Kd.at_string (Kd.R_reads' aA.out).2.2 (aM) aX aW; cases cG; replace aX := eq_true aX; replace aW := eq_true aW) | ((with_reducible refine gate_dst (N := 69) rfl ?_); refine Kd.conv_event rfl 9 22 5 _ (rdOf ByteArray.empty aH (aM)) bB rfl rfl Try.underlying9 Try.underlying22 Try.underlying5 bY.out od_ ?_; intro cF cH gC hr_ hc_ hb; replace aA := q_ (Kd.R_below (kr_ aA.out) hb); replace HB := q_ (below_step (be_ HB.out) hb); have aC := q_ (hr_); have bN := q_ (hc_); clear hb hr_ hc_) | ((with_reducible refine gate_callee (f := 51) rfl ?_); refine gl_ (some 70) Try.func51 #[.slice (some ⟨cF, 0, none⟩) bB.length cH] rfl al_ ?_; (with_reducible refine (spec_Digest.calls bE _ _ bB bC _ ?side1 ?side2 fB.out).mono ?_); (case side1 => repeat (first | exact (by repeat (first | (with_reducible exact aC.out) | (with_reducible refine Kd.C_alloc ?_ _) | (with_reducible refine Kd.C_drewN ?_ _) | (with_reducible refine Kd.C_drew ?_) | exact aC.out)) | (with_reducible refine Kd.C_alloc ?_ _) | (with_reducible refine Kd.C_drewN ?_ _) | (with_reducible refine Kd.C_drew ?_))); (case side2 => exact bN.out); rintro e gB ⟨rfl, hb⟩; refine ⟨_, rfl, ?_⟩; replace aA := q_ (Kd.R_below (kr_ aA.out) hb); replace aC := q_ (Kd.C_below (by repeat (first | (with_reducible exact aC.out) | (with_reducible refine Kd.C_alloc ?_ _) | (with_reducible refine Kd.C_drewN ?_ _) | (with_reducible refine Kd.C_drew ?_) | exact aC.out)) hb); replace HB := q_ (below_step (be_ HB.out) hb); (try clear hb)) | ((with_reducible refine gate_callee (f := 88) rfl ?_); refine gl_ (some 84) Try.func88 #[.string (rdOf ByteArray.empty l3 (aR)), .string bC] rfl (by (try simp only [List.map_toArray, List.map_cons, List.map_nil]); first | done | (simp only [aK]; rfl) | rfl | (simp only [List.length_drop, List.length_take]; rfl)) ?_; (with_reducible refine (spec_l4Node.calls (rdOf ByteArray.empty l3 (aR)) bC bO _ fU.out).mono ?_); rintro e gA ⟨fG, rfl, aY, hb⟩; refine ⟨_, rfl, ?_⟩; replace aA := q_ (Kd.R_below (kr_ aA.out) hb); have aZ := q_ (Kd.R_lower aY (below_size (be_ HB.out))); replace aC := q_ (Kd.C_below (by repeat (first | (with_reducible exact aC.out) | (with_reducible refine Kd.C_alloc ?_ _) | (with_reducible refine Kd.C_drewN ?_ _) | (with_reducible refine Kd.C_drew ?_) | exact aC.out)) hb); replace HB := q_ (below_step (be_ HB.out) hb); (try clear hb); (try clear aY); have eN := own_string (P := Try.prog) Try.underlying22 Try.underlying5 Try.underlying9 (Kd.own_of_R aZ.out)) | ((with_reducible refine gate_builtin (b := .append) (xs := #[.tmp 81, .tmp 86]) rfl ?_); at_builtin; refine Kd.R_append Kd.string (w0 := w) w.heap.size rfl (.tmp 81) (.tmp 86) 50 9 (.string ⟨#[]⟩) 16 rfl Try.underlying50 info9 rfl (by decide) (by omega) (.slice (some bM) aH.length eF) aH (strOfNums bO) [.string (strOfNums bO)] (fun _ => True) (fun _ => False) rfl rfl ?aP (fun _ hk => hk.elim) ?aF ?aO ?aB ?aS ?aL ?_; (case aP => exact rfl); (case aB => exact (be_ HB.out)); (case aF => exact (fun _ _ => trivial)); (case aO => exact (kr_ aA.out)); (case aS => exact (below_size (be_ HB.out))); (case aL => have := dC.out; omega); intro fF fZ ho hb hg hat; rw [← dA.out] at ho; have cP := q_ (Kd.R_over' (kr_ aZ.out) (Kd.R_typed (kr_ aA.out)) (by decide) hg); have cO := q_ (hb); have cN := q_ (ho); clear aZ; clear HB; clear aA; have aZ := cP; have HB := cO; have dF := cN; clear cP cO cN; clear ho hb hg hat))
      go_ret2
      exact ⟨_, by first | rfl | (simp [errW_none, errW_some] <;> rfl) | (simp only [← aK, ← aJ, ← aN]; first | rfl | (simp [errW_none, errW_some] <;> rfl)) | (simp [*, errW_none, errW_some] <;> rfl), kr_ dF.out, be_ HB.out⟩
     ·
      replace dM := Bool.eq_false_iff.mpr dM
      subst dM
      rw [if_neg (show ¬ (false = true) by decide)] at H
      obtain ⟨dP, bI⟩ : ∃ y_ : List ByteArray, y_ = (([] : List ByteArray)) := ⟨_, rfl⟩
      replace H : (some (dP, false)) = some (r1, r2) := ry_ bI H
      have bZ := Aside0.mk bI
      clear bI
      simp only [Option.some.injEq, Prod.mk.injEq] at H
      obtain ⟨rfl, rfl⟩ := H
      obtain ⟨fO, bU, _, bR, _⟩ := info_parts info9
      obtain ⟨dX, cU, cR⟩ := print_take_of (P := Try.prog) Value.string (⟨#[]⟩ : ByteArray) 50 9 .i64 Try.underlying50 bU bR (some aQ) c3 l3 (aD) od_ od_ eK.out
      have aU := q_ (Kd.C_of_reads (h1 := fun _ => rfl) (cU _ (Kd.reads_of_C dN.out)))
      have aV := Aside0.mk cR
      clear cU cR bU bR
      go_wp2_with (first | ((with_reducible refine gate_callee (f := 89) rfl ?_); refine gl_ (some 57) Try.func89 #[.slice A0 l0.length c0, .int .i64 aE, .int .i64 aG, .slice (some aQ) (l3.take ((aD) : Int).toNat).length c3] rfl (by (try simp only [List.map_toArray, List.map_cons, List.map_nil]); first | done | (rw [show (l3.take ((aD) : Int).toNat).length = (aD).toNat from (by rw [List.length_take]; have h_ : ((aD) : Int) ≤ (l3.length : Int) := od_; omega)] <;> rfl) | (simp only [aJ]; rfl) | rfl | (simp only [List.length_drop, List.length_take]; rfl)) ?_; (with_reducible refine (ih bE (by have := cI.out; omega) _ _ l0 aE aG _ _ (l3.take ((aD) : Int).toNat) aH false _ ?side1 ?side2 ?side3 ?side4 dO.out).mono ?_); (case side1 => exact kc_ (Kd.C_below dE.out HB.out)); (case side2 => exact eL.out); (case side3 => exact kc_ (Kd.C_below aU.out HB.out)); (case side4 => exact aV.out); rintro e fY ⟨cM, rfl, aY, hb⟩; refine ⟨_, rfl, ?_⟩; have aA := q_ (Kd.R_lower aY (below_size (be_ HB.out))); replace HB := q_ (below_step (be_ HB.out) hb); (try clear hb); (try clear aY)) | ((with_reducible refine gate_dst (N := 62) rfl ?_); refine Kd.R_lit Kd.string _ 9 ?hg (N := 62) ?hd (xs := ([] : List ByteArray)) (inner := []) (ok := fun _ => True) (okp := fun _ => True) ?hr ?hp (fun _ hk => hk) trivial (Below.refl _ _) (Nat.le_refl _) (by simp) ?_; (case hd => rfl); (case hg => rfl); (case hr => first | (go_simp; done) | (go_simp; rfl)); (case hp => exact (Reps.none _ _)); intro fJ fX bD hb hg_ hnew_; clear hg_ hnew_; (first | rw [← bZ.out] at bD | (simp only [Int.reduceToNat] at bD; rw [← bZ.out] at bD)); have dH := q_ (Kd.R_lower (Kd.R_new' bD (Kd.R_lt (kr_ aA.out))) (below_size (be_ HB.out))); replace aA := q_ (Kd.R_elder' (kr_ aA.out) (Kd.R_base bD) hb); replace HB := q_ (below_step (be_ HB.out) hb); clear hb bD))
      go_ret2
      exact ⟨_, by first | rfl | (simp [errW_none, errW_some] <;> rfl) | (simp only [← aK, ← aJ]; first | rfl | (simp [errW_none, errW_some] <;> rfl)) | (simp [*, errW_none, errW_some] <;> rfl), by (with_reducible repeat (first | apply Kd.R_alloc | apply Kd.R_drewN | apply Kd.R_drew)); exact Kd.R_mono dH.out (fun _ hk => trivial), be_ HB.out⟩
def spec_l4All.f (k : Nat) (l0 : List Int) (a1 : Int) (a2 : Int) (l3 : List ByteArray) : Option (List ByteArray × Bool) := (spec_l4Hashed.f k l0 a1 a2 l3).bind fun aA => (if aA.2 = true then (if 0 ≤ (wrap64 ((aA.1.length : Int) - 1)) then (if (wrap64 ((aA.1.length : Int) - 1)) < (aA.1.length : Int) then (if (rdOf ByteArray.empty aA.1 (wrap64 ((aA.1.length : Int) - 1))).size ≤ 9223372036854775807 then ((spec_Digest.f k (bytesOf (rdOf ByteArray.empty aA.1 (wrap64 ((aA.1.length : Int) - 1))))).bind fun aC => ((spec_l4Top.f k a2 aC).bind fun aB => (if aA.1.length < 8796093022208 then (some ((aA.1 ++ [strOfNums aB]), true)) else (none)))) else (none)) else (none)) else (none)) else (some ((([] : List ByteArray)), false)))
theorem spec_l4All.calls (k : Nat) (A0 : Option Addr) (c0 : Nat) (l0 : List Int) (a1 : Int) (a2 : Int) (A3 : Option Addr) (c3 : Nat) (l3 : List ByteArray) (r1 : List ByteArray) (r2 : Bool) (w : World) (bR : Kd.C (Kd.int .u8) w A0 l0.length l0) (bV : l0.length ≤ c0) (bQ : Kd.C Kd.string w A3 l3.length l3) (bU : l3.length ≤ c3) (h : spec_l4All.f k l0 a1 a2 l3 = some (r1, r2)) :
 Calls Try.prog 77 #[.slice A0 l0.length c0, .int .i64 a1, .int .i64 a2, .slice A3 l3.length c3] w fun e w' => ∃ v0_ : Value, e = .returned (.tuple #[v0_, .bool r2]) ∧ Kd.R Kd.string 9 w' w.heap.size (fun _ => True) v0_ r1 ∧ Below w.heap.size w w' := by
 have cA := Aside0.mk bR
 have cC := Aside0.mk bV
 clear bR bV
 have bZ := Aside0.mk bQ
 have cB := Aside0.mk bU
 clear bQ bU
 have HB := q_ (Below.refl w.heap.size w)
 have H := h
 clear h
 unfold spec_l4All.f at H
 obtain ⟨⟨aD, bH⟩, A5, H⟩ := bo_ H; try dsimp only at H
 by_cases c6 : bH = true
 ·
  subst c6
  rw [if_pos rfl] at H
  obtain ⟨aN, aK⟩ : ∃ j_ : Int, (wrap64 ((aD.length : Int) - 1)) = j_ := ⟨_, rfl⟩
  first | rw [aK] at H | simp only [aK] at H
  (try rw [aK] at A5)
  have bS : (IntKind.i64.wrap ((aD.length : Int) - 1)) = aN := (i64_w _).trans aK
  obtain ⟨cJ, H⟩ := id_ H
  obtain ⟨cI, H⟩ := id_ H
  obtain ⟨bF, H⟩ := ip_ H
  have bY := eq_true bF
  have bX : decide ((rdOf ByteArray.empty aD (aN)).size ≤ 9223372036854775807) = true := decide_eq_true bF
  try have bW : (9223372036854775807 < (rdOf ByteArray.empty aD (aN)).size) = False := eq_false (Nat.not_lt.2 bF)
  clear bF
  obtain ⟨aT, aJ⟩ : ∃ y_ : List Int, y_ = (bytesOf (rdOf ByteArray.empty aD (aN))) := ⟨_, rfl⟩
  rw [← aJ] at H
  have aZ := Aside0.mk aJ
  clear aJ
  obtain ⟨aU, cM, H⟩ := bo_ H
  obtain ⟨aM, cL, H⟩ := bo_ H
  obtain ⟨bA, H⟩ := ia_ H
  obtain ⟨cE, aI⟩ : ∃ y_ : List ByteArray, y_ = (aD ++ [strOfNums aM]) := ⟨_, rfl⟩
  rw [← aI] at H
  have aY := Aside0.mk aI
  clear aI
  simp only [Option.some.injEq, Prod.mk.injEq] at H
  obtain ⟨rfl, rfl⟩ := H
  go_enter Try.func77, Try.ntmps77
  go_wp2_with (first | ((with_reducible refine gate_callee (f := 89) rfl ?_); refine gl_ (some 17) Try.func89 #[.slice A0 l0.length c0, .int .i64 a1, .int .i64 a2, .slice A3 l3.length c3] rfl al_ ?_; (with_reducible refine (spec_l4Hashed.calls k _ _ l0 a1 a2 _ _ l3 aD true _ ?side1 ?side2 ?side3 ?side4 A5.out).mono ?_); (case side1 => exact kc_ cA.out); (case side2 => exact cC.out); (case side3 => exact kc_ bZ.out); (case side4 => exact cB.out); rintro e cS ⟨bG, rfl, aQ, hb⟩; refine ⟨_, rfl, ?_⟩; have aA := q_ (Kd.R_lower aQ (below_size (be_ HB.out))); replace HB := q_ (below_step (be_ HB.out) hb); (try clear hb); (try clear aQ); obtain ⟨cK, bL, bJ⟩ := Kd.R_slice aA.out; subst bJ; have aW : 0 ≤ ((aN) : Int) := od_; have aV : (aN) < (aD.length : Int) := od_; obtain ⟨aX, bK, bE⟩ := Kd.at_string (Kd.R_reads' aA.out).2.2 (aN) aW aV; cases bK; replace aW := eq_true aW; replace aV := eq_true aV) | ((with_reducible refine gate_dst (N := 31) rfl ?_); refine Kd.conv_event rfl 9 22 5 _ (rdOf ByteArray.empty aD (aN)) aT rfl rfl Try.underlying9 Try.underlying22 Try.underlying5 aZ.out od_ ?_; intro bI bM w16 hr_ hc_ hb; replace aA := q_ (Kd.R_below (kr_ aA.out) hb); replace HB := q_ (below_step (be_ HB.out) hb); have aC := q_ (hr_); have bD := q_ (hc_); clear hb hr_ hc_) | ((with_reducible refine gate_callee (f := 51) rfl ?_); refine gl_ (some 32) Try.func51 #[.slice (some ⟨bI, 0, none⟩) aT.length bM] rfl al_ ?_; (with_reducible refine (spec_Digest.calls k _ _ aT aU _ ?side1 ?side2 cM.out).mono ?_); (case side1 => repeat (first | exact (by repeat (first | (with_reducible exact aC.out) | (with_reducible refine Kd.C_alloc ?_ _) | (with_reducible refine Kd.C_drewN ?_ _) | (with_reducible refine Kd.C_drew ?_) | exact aC.out)) | (with_reducible refine Kd.C_alloc ?_ _) | (with_reducible refine Kd.C_drewN ?_ _) | (with_reducible refine Kd.C_drew ?_))); (case side2 => exact bD.out); rintro e cR ⟨rfl, hb⟩; refine ⟨_, rfl, ?_⟩; replace aA := q_ (Kd.R_below (kr_ aA.out) hb); replace aC := q_ (Kd.C_below (by repeat (first | (with_reducible exact aC.out) | (with_reducible refine Kd.C_alloc ?_ _) | (with_reducible refine Kd.C_drewN ?_ _) | (with_reducible refine Kd.C_drew ?_) | exact aC.out)) hb); replace HB := q_ (below_step (be_ HB.out) hb); (try clear hb)) | ((with_reducible refine gate_callee (f := 52) rfl ?_); refine gl_ (some 33) Try.func52 #[.int .i64 a2, .string aU] rfl al_ ?_; (with_reducible refine (spec_l4Top.calls k a2 aU aM _ cL.out).mono ?_); rintro e cQ ⟨cH, rfl, aQ, hb⟩; refine ⟨_, rfl, ?_⟩; replace aA := q_ (Kd.R_below (kr_ aA.out) hb); have aE := q_ (Kd.R_lower aQ (below_size (be_ HB.out))); replace aC := q_ (Kd.C_below (by repeat (first | (with_reducible exact aC.out) | (with_reducible refine Kd.C_alloc ?_ _) | (with_reducible refine Kd.C_drewN ?_ _) | (with_reducible refine Kd.C_drew ?_) | exact aC.out)) hb); replace HB := q_ (below_step (be_ HB.out) hb); (try clear hb); (try clear aQ); have bT := own_string (P := Try.prog) Try.underlying22 Try.underlying5 Try.underlying9 (Kd.own_of_R aE.out)) | ((with_reducible refine gate_builtin (b := .append) (xs := #[.tmp 23, .tmp 35]) rfl ?_); at_builtin; refine Kd.R_append Kd.string (w0 := w) w.heap.size rfl (.tmp 23) (.tmp 35) 50 9 (.string ⟨#[]⟩) 16 rfl Try.underlying50 info9 rfl (by decide) (by omega) (.slice (some aX) aD.length bL) aD (strOfNums aM) [.string (strOfNums aM)] (fun _ => True) (fun _ => False) rfl rfl ?aP (fun _ hk => hk.elim) ?aF ?aO ?aB ?aS ?aL ?_; (case aP => exact rfl); (case aB => exact (be_ HB.out)); (case aF => exact (fun _ _ => trivial)); (case aO => exact (kr_ aA.out)); (case aS => exact (below_size (be_ HB.out))); (case aL => have := bA.out; omega); intro cG cP ho hb hg hat; rw [← aY.out] at ho; have bP := q_ (Kd.R_over' (kr_ aE.out) (Kd.R_typed (kr_ aA.out)) (by decide) hg); have bO := q_ (hb); have bN := q_ (ho); clear aE; clear HB; clear aA; have aE := bP; have HB := bO; have bC := bN; clear bP bO bN; clear ho hb hg hat))
  go_ret2
  exact ⟨_, by first | rfl | (simp [errW_none, errW_some] <;> rfl) | (simp only [← aK]; first | rfl | (simp [errW_none, errW_some] <;> rfl)) | (simp [*, errW_none, errW_some] <;> rfl), kr_ bC.out, be_ HB.out⟩
 ·
  replace c6 := Bool.eq_false_iff.mpr c6
  subst c6
  rw [if_neg (show ¬ (false = true) by decide)] at H
  obtain ⟨cD, aH⟩ : ∃ y_ : List ByteArray, y_ = (([] : List ByteArray)) := ⟨_, rfl⟩
  rw [← aH] at H
  have aR := Aside0.mk aH
  clear aH
  simp only [Option.some.injEq, Prod.mk.injEq] at H
  obtain ⟨rfl, rfl⟩ := H
  go_enter Try.func77, Try.ntmps77
  go_wp2_with (first | ((with_reducible refine gate_callee (f := 89) rfl ?_); refine gl_ (some 17) Try.func89 #[.slice A0 l0.length c0, .int .i64 a1, .int .i64 a2, .slice A3 l3.length c3] rfl al_ ?_; (with_reducible refine (spec_l4Hashed.calls k _ _ l0 a1 a2 _ _ l3 aD false _ ?side1 ?side2 ?side3 ?side4 A5.out).mono ?_); (case side1 => exact kc_ cA.out); (case side2 => exact cC.out); (case side3 => exact kc_ bZ.out); (case side4 => exact cB.out); rintro e cO ⟨bG, rfl, aQ, hb⟩; refine ⟨_, rfl, ?_⟩; have aA := q_ (Kd.R_lower aQ (below_size (be_ HB.out))); replace HB := q_ (below_step (be_ HB.out) hb); (try clear hb); (try clear aQ)) | ((with_reducible refine gate_dst (N := 22) rfl ?_); refine Kd.R_lit Kd.string _ 9 ?hg (N := 22) ?hd (xs := ([] : List ByteArray)) (inner := []) (ok := fun _ => True) (okp := fun _ => True) ?hr ?hp (fun _ hk => hk) trivial (Below.refl _ _) (Nat.le_refl _) (by simp) ?_; (case hd => rfl); (case hg => rfl); (case hr => first | (go_simp; done) | (go_simp; rfl)); (case hp => exact (Reps.none _ _)); intro cF cN aG hb hg_ hnew_; clear hg_ hnew_; (first | rw [← aR.out] at aG | (simp only [Int.reduceToNat] at aG; rw [← aR.out] at aG)); have bB := q_ (Kd.R_lower (Kd.R_new' aG (Kd.R_lt (kr_ aA.out))) (below_size (be_ HB.out))); replace aA := q_ (Kd.R_elder' (kr_ aA.out) (Kd.R_base aG) hb); replace HB := q_ (below_step (be_ HB.out) hb); clear hb aG))
  go_ret2
  exact ⟨_, rf_, by (with_reducible repeat (first | apply Kd.R_alloc | apply Kd.R_drewN | apply Kd.R_drew)); exact Kd.R_mono bB.out (fun _ hk => trivial), be_ HB.out⟩
def spec_CheckPath.j0 : Nat → Int → Int → List ByteArray → ByteArray → Bool → ByteArray → ByteArray → Option (Bool)
 | 0, _, _, _, _, _, _, _ => none
 | k + 1, x1, x2, x3, x4, aF, aC, aB => if aF = true then (some false) else ((spec_l4Leaf.f k aC aB).bind fun aE => ((spec_l4All.f k aE x1 x2 x3).bind fun aA => (if aA.2 = true then (if 0 ≤ (wrap64 ((aA.1.length : Int) - 1)) then (if (wrap64 ((aA.1.length : Int) - 1)) < (aA.1.length : Int) then (if (rdOf ByteArray.empty aA.1 (wrap64 ((aA.1.length : Int) - 1))).size ≤ 9223372036854775807 then ((spec_Digest.f k (bytesOf (rdOf ByteArray.empty aA.1 (wrap64 ((aA.1.length : Int) - 1))))).bind fun aD => (some (aD.toList == x4.toList))) else (none)) else (none)) else (none)) else (some false))))
def spec_CheckPath.f (k : Nat) (aB : ByteArray) (aA : ByteArray) (a1 : Int) (a2 : Int) (l3 : List ByteArray) (a4 : ByteArray) : Option (Bool) := (spec_l1In.f a2 1 60).bind fun aD => (if aD = true then ((spec_l1In.f a1 0 (wrap64 (a2 - 1))).bind fun aC => (spec_CheckPath.j0 k a1 a2 l3 a4 (!aC) aB aA)) else (spec_CheckPath.j0 k a1 a2 l3 a4 true aB aA))
theorem spec_CheckPath.calls (k : Nat) (aH : ByteArray) (aG : ByteArray) (a1 : Int) (a2 : Int) (A3 : Option Addr) (c3 : Nat) (l3 : List ByteArray) (a4 : ByteArray) (r : Bool) (w : World) (bZ : Kd.C Kd.string w A3 l3.length l3) (cA : l3.length ≤ c3) (h : spec_CheckPath.f k aH aG a1 a2 l3 a4 = some r) :
 Calls Try.prog 55 #[.agg #[.string aH, .string aG], .int .i64 a1, .int .i64 a2, .slice A3 l3.length c3, .string a4] w fun e w' => e = .returned (.bool r) ∧ Below w.heap.size w w' := by
 have cK := Try.underlying45
 have cH := Aside0.mk bZ
 have cI := Aside0.mk cA
 clear bZ cA
 have HB := q_ (Below.refl w.heap.size w)
 have H := h
 clear h
 unfold spec_CheckPath.f at H
 have bU := Aside0.mk H
 clear H
 go_enter Try.func55, Try.ntmps55
 go_upto_region 1 with (first | ((with_reducible refine gate_dst (N := 5) rfl ?_); (try (refine gate_guard (by rfl) ?_; dsimp only)); refine box_event rfl (N := 5) rfl (cs := #[.string aH, .string aG]) (t := 45) hr_ ?_; intro aT hg w7 hbox hb; have aA := q_ (hbox); have aC := ge_ hg (be_ HB.out); replace HB := q_ (below_step (be_ HB.out) hb); clear hb hbox hg))
 (try simp only [Act.put, sa_, sz_, ss_])
 go_cut [22] (fun cJ wc => ∃ (kq : Nat) (aK : Bool), cJ = .bool aK ∧ Aside0 (spec_CheckPath.j0 kq a1 a2 l3 a4 aK aH aG = some r) ∧ Aside0 (kq ≤ k) ∧ Aside0 (wc.heap[aT]? = some (.cells #[.string aH, .string aG] 45 (0, 0))) ∧ Aside0 (Below w.heap.size w wc))
 case first =>
  have H := bU.out
  clear bU
  obtain ⟨bM, A8, H⟩ := bo_ H
  by_cases c9 : bM = true
  rotate_left
  ·
   replace c9 := Bool.eq_false_iff.mpr c9
   subst c9
   rw [if_neg (show ¬ (false = true) by decide)] at H
   have H' := Aside0.mk H
   clear H
   go_wp2_with (first | ((with_reducible refine gate_callee (f := 28) rfl ?_); refine gl_ (some 14) Try.func28 #[.int .i64 a2, .int .i64 1, .int .i64 60] rfl al_ ?_; (with_reducible refine (spec_l1In.calls a2 1 60 false _ A8.out).mono ?_); rintro e w' ⟨rfl, ⟨nd, rfl⟩⟩; refine ⟨_, rfl, ?_⟩))
   go_meet
   case rel => exact ⟨_, (true), rs_, H', ⟨by first | omega | exact Nat.le_refl _⟩, ⟨bk_ aA.out⟩, ⟨bs_ HB.out aC.out⟩⟩
  subst c9
  rw [if_pos rfl] at H
  obtain ⟨aR, cQ, H⟩ := bo_ H
  have H' := Aside0.mk H
  clear H
  go_wp2_with (first | ((with_reducible refine gate_callee (f := 28) rfl ?_); refine gl_ (some 14) Try.func28 #[.int .i64 a2, .int .i64 1, .int .i64 60] rfl al_ ?_; (with_reducible refine (spec_l1In.calls a2 1 60 true _ A8.out).mono ?_); rintro e w' ⟨rfl, ⟨nd, rfl⟩⟩; refine ⟨_, rfl, ?_⟩) | (go_at_call 28; (with_reducible refine (spec_l1In.calls a1 0 (wrap64 (a2 - 1)) aR _ cQ.out).mono ?_); rintro e w' ⟨rfl, ⟨nd, rfl⟩⟩))
  go_meet
  case rel => exact ⟨_, (!aR), rs_, H', ⟨by first | omega | exact Nat.le_refl _⟩, ⟨bk_ aA.out⟩, ⟨bs_ HB.out aC.out⟩⟩
 case rest =>
  clear bU
  obtain ⟨kq, aK, rfl, HA, cX, aA, HB⟩ := hcut
  cases kq with
  | zero => exact absurd HA.out (by simp [spec_CheckPath.j0])
  | succ aS =>
   have H := HA.out
   clear HA
   simp only [spec_CheckPath.j0] at H
   by_cases bH : aK = true
   · subst bH
     rw [if_pos rfl] at H
     obtain rfl := Option.some.inj H
     go_wp2
     go_ret
     exact ⟨rf_, bs_ HB.out aC.out⟩
   ·
    replace bH := Bool.eq_false_iff.mpr bH
    subst bH
    rw [if_neg (show ¬ (false = true) by decide)] at H
    obtain ⟨aL, bY, H⟩ := bo_ H
    obtain ⟨⟨aF, bL⟩, bX, H⟩ := bo_ H; try dsimp only at H
    by_cases bG : bL = true
    ·
     subst bG
     rw [if_pos rfl] at H
     obtain ⟨aI, aE⟩ : ∃ j_ : Int, (wrap64 ((aF.length : Int) - 1)) = j_ := ⟨_, rfl⟩
     first | rw [aE] at H | simp only [aE] at H
     (try rw [aE] at bY)
     (try rw [aE] at bX)
     have bN : (IntKind.i64.wrap ((aF.length : Int) - 1)) = aI := (i64_w _).trans aE
     obtain ⟨cF, H⟩ := id_ H
     obtain ⟨cE, H⟩ := id_ H
     obtain ⟨bF, H⟩ := ip_ H
     have cD := eq_true bF
     have cC : decide ((rdOf ByteArray.empty aF (aI)).size ≤ 9223372036854775807) = true := decide_eq_true bF
     try have cB : (9223372036854775807 < (rdOf ByteArray.empty aF (aI)).size) = False := eq_false (Nat.not_lt.2 bF)
     clear bF
     obtain ⟨aQ, aM⟩ : ∃ y_ : List Int, y_ = (bytesOf (rdOf ByteArray.empty aF (aI))) := ⟨_, rfl⟩
     rw [← aM] at H
     have aU := Aside0.mk aM
     clear aM
     obtain ⟨bK, cP, H⟩ := bo_ H
     obtain rfl := Option.some.inj H
     obtain ⟨bE, bD, bA, aZ⟩ := bx2_ aA.out
     go_wp2_with (first | ((with_reducible refine gate_callee (f := 78) rfl ?_); refine gl_ (some 25) Try.func78 #[.agg #[.string aH, .string aG]] rfl al_ ?_; (with_reducible refine (spec_l4Leaf.calls aS aH aG aL _ bY.out).mono ?_); rintro e cW ⟨bJ, rfl, aN, hb⟩; refine ⟨_, rfl, ?_⟩; have aB := q_ (Kd.R_lower aN (below_size (bs_ HB.out aC.out))); replace aA := q_ (bb_ aA.out hb); replace HB := q_ (below_step (bs_ HB.out aC.out) hb); (try clear hb); (try clear aN); obtain ⟨bW, bT, bQ⟩ := Kd.R_slice aB.out; subst bQ) | ((with_reducible refine gate_callee (f := 77) rfl ?_); refine gl_ (some 29) Try.func77 #[.slice bW aL.length bT, .int .i64 a1, .int .i64 a2, .slice A3 l3.length c3] rfl al_ ?_; (with_reducible refine (spec_l4All.calls aS _ _ aL a1 a2 _ _ l3 aF true _ ?side1 ?side2 ?side3 ?side4 bX.out).mono ?_); (case side1 => exact kc_ (Kd.R_reads' aB.out).2.2); (case side2 => exact (Kd.R_reads' aB.out).2.1); (case side3 => exact kc_ (Kd.C_below cH.out HB.out)); (case side4 => exact cI.out); rintro e cV ⟨bI, rfl, aN, hb⟩; refine ⟨_, rfl, ?_⟩; replace aB := q_ (Kd.R_below (kr_ aB.out) hb); have aD := q_ (Kd.R_lower aN (below_size (bs_ HB.out aC.out))); replace aA := q_ (bb_ aA.out hb); replace HB := q_ (below_step (bs_ HB.out aC.out) hb); (try clear hb); (try clear aN); obtain ⟨cO, cM, bP⟩ := Kd.R_slice aD.out; subst bP; have aP : 0 ≤ ((aI) : Int) := od_; have aO : (aI) < (aF.length : Int) := od_; obtain ⟨cG, bR, aW⟩ := Kd.at_string (Kd.R_reads' aD.out).2.2 (aI) aP aO; cases bR; replace aP := eq_true aP; replace aO := eq_true aO) | ((with_reducible refine gate_dst (N := 40) rfl ?_); (try (refine gate_guard (by rfl) ?_; dsimp only)); refine Kd.conv_event rfl 9 22 5 _ (rdOf ByteArray.empty aF (aI)) aQ rfl rfl Try.underlying9 Try.underlying22 Try.underlying5 aU.out od_ ?_; intro cL cN cU hr_ hc_ hb; replace aB := q_ (Kd.R_below (kr_ aB.out) hb); replace aD := q_ (Kd.R_below (kr_ aD.out) hb); replace aA := q_ (bb_ aA.out hb); replace HB := q_ (below_step (bs_ HB.out aC.out) hb); have aJ := q_ (hr_); have aV := q_ (hc_); clear hb hr_ hc_) | (go_at_call 51; (with_reducible refine (spec_Digest.calls aS _ _ aQ bK _ ?side1 ?side2 cP.out).mono ?_); (case side1 => repeat (first | exact (by repeat (first | (with_reducible exact aJ.out) | (with_reducible refine Kd.C_alloc ?_ _) | (with_reducible refine Kd.C_drewN ?_ _) | (with_reducible refine Kd.C_drew ?_) | exact aJ.out)) | (with_reducible refine Kd.C_alloc ?_ _) | (with_reducible refine Kd.C_drewN ?_ _) | (with_reducible refine Kd.C_drew ?_))); (case side2 => exact aV.out); rintro e cT ⟨rfl, hb⟩; replace aB := q_ (Kd.R_below (kr_ aB.out) hb); replace aD := q_ (Kd.R_below (kr_ aD.out) hb); replace aA := q_ (bb_ aA.out hb); replace aJ := q_ (Kd.C_below (by repeat (first | (with_reducible exact aJ.out) | (with_reducible refine Kd.C_alloc ?_ _) | (with_reducible refine Kd.C_drewN ?_ _) | (with_reducible refine Kd.C_drew ?_) | exact aJ.out)) hb); replace HB := q_ (below_step (bs_ HB.out aC.out) hb); (try clear hb)))
     go_ret
     exact ⟨by first | rfl | (simp [errW_none, errW_some] <;> rfl) | (simp only [← aE]; first | rfl | (simp [errW_none, errW_some] <;> rfl)) | (simp [*, errW_none, errW_some] <;> rfl), bs_ HB.out aC.out⟩
    ·
     replace bG := Bool.eq_false_iff.mpr bG
     subst bG
     rw [if_neg (show ¬ (false = true) by decide)] at H
     obtain rfl := Option.some.inj H
     obtain ⟨bC, bB, aY, aX⟩ := bx2_ aA.out
     go_wp2_with (first | ((with_reducible refine gate_callee (f := 78) rfl ?_); refine gl_ (some 25) Try.func78 #[.agg #[.string aH, .string aG]] rfl al_ ?_; (with_reducible refine (spec_l4Leaf.calls aS aH aG aL _ bY.out).mono ?_); rintro e cS ⟨bJ, rfl, aN, hb⟩; refine ⟨_, rfl, ?_⟩; have aB := q_ (Kd.R_lower aN (below_size (bs_ HB.out aC.out))); replace aA := q_ (bb_ aA.out hb); replace HB := q_ (below_step (bs_ HB.out aC.out) hb); (try clear hb); (try clear aN); obtain ⟨bV, bS, bO⟩ := Kd.R_slice aB.out; subst bO) | ((with_reducible refine gate_callee (f := 77) rfl ?_); refine gl_ (some 29) Try.func77 #[.slice bV aL.length bS, .int .i64 a1, .int .i64 a2, .slice A3 l3.length c3] rfl al_ ?_; (with_reducible refine (spec_l4All.calls aS _ _ aL a1 a2 _ _ l3 aF false _ ?side1 ?side2 ?side3 ?side4 bX.out).mono ?_); (case side1 => exact kc_ (Kd.R_reads' aB.out).2.2); (case side2 => exact (Kd.R_reads' aB.out).2.1); (case side3 => exact kc_ (Kd.C_below cH.out HB.out)); (case side4 => exact cI.out); rintro e cR ⟨bI, rfl, aN, hb⟩; refine ⟨_, rfl, ?_⟩; replace aB := q_ (Kd.R_below (kr_ aB.out) hb); have aD := q_ (Kd.R_lower aN (below_size (bs_ HB.out aC.out))); replace aA := q_ (bb_ aA.out hb); replace HB := q_ (below_step (bs_ HB.out aC.out) hb); (try clear hb); (try clear aN)))
     go_ret
     exact ⟨rf_, bs_ HB.out aC.out⟩
def spec_l5Item.f (k : Nat) (a0 : ByteArray) (aE : Int) (aD : Int) (aA : List (S52)) (a2 : Int) : Option (Bool) := if 0 ≤ a2 then (if a2 < (aA.length : Int) then ((spec_PairOk.f k ((rd_T52 aA a2).f0.f0) ((rd_T52 aA a2).f0.f1)).bind fun aC => (if aC = true then ((spec_CheckPath.f k ((rd_T52 aA a2).f0.f0) ((rd_T52 aA a2).f0.f1) (wrap64 (aD + a2)) aE ((rd_T52 aA a2).f1) a0).bind fun aB => (if aB = true then (if a2 = 0 then (some true) else (if 0 ≤ (wrap64 (a2 - 1)) then (if (wrap64 (a2 - 1)) < (aA.length : Int) then (some (Op.bytesLess (((rd_T52 aA (wrap64 (a2 - 1))).f0.f0).toList) (((rd_T52 aA a2).f0.f0).toList))) else (none)) else (none))) else (some false))) else (some false))) else (none)) else (none)
theorem spec_l5Item.calls (k : Nat) (a0 : ByteArray) (aK : Int) (aJ : Int) (aX : Option Addr) (aQ : Nat) (aB : List (S52)) (a2 : Int) (r : Bool) (w : World) (dA : Kd.C k52 w aX aB.length aB) (dB : aB.length ≤ aQ) (h : spec_l5Item.f k a0 aK aJ aB a2 = some r) :
 Calls Try.prog 29 #[.string a0, .agg #[.int .i64 aK, .int .i64 aJ, .slice aX aB.length aQ], .int .i64 a2] w fun e w' => e = .returned (.bool r) ∧ Below w.heap.size w w' := by
 have gF := Try.underlying27
 have gD := Try.underlying52
 have gE := Try.underlying45
 have aS := Aside0.mk dA
 have fW := Aside0.mk dB
 clear dA dB
 have HB := q_ (Below.refl w.heap.size w)
 have H := h
 clear h
 unfold spec_l5Item.f at H
 obtain ⟨gH, H⟩ := id_ H
 obtain ⟨gG, H⟩ := id_ H
 obtain ⟨fI, A6, H⟩ := bo_ H
 by_cases c7 : fI = true
 ·
  subst c7
  rw [if_pos rfl] at H
  obtain ⟨fH, A8, H⟩ := bo_ H
  by_cases c9 : fH = true
  rotate_left
  ·
   replace c9 := Bool.eq_false_iff.mpr c9
   subst c9
   rw [if_neg (show ¬ (false = true) by decide)] at H
   obtain rfl := Option.some.inj H
   go_enter Try.func29, Try.ntmps29
   go_wp2_with (first | ((with_reducible refine gate_dst (N := 4) rfl ?_); refine box_event rfl (N := 4) rfl (cs := #[.int .i64 aK, .int .i64 aJ, .slice aX aB.length aQ]) (t := 27) hr_ ?_; intro aF hg gL hbox hb; have aC := q_ (hbox); have aE := ge_ hg (be_ HB.out); replace HB := q_ (below_step (be_ HB.out) hb); clear hb hbox hg; obtain ⟨eU, eT, eS, dW, dV, dU⟩ := bx3_ aC.out; obtain ⟨aG, aP, aO, aW, aV, aU, aT, aN, aM, dD, dC⟩ := at3_ HB.out (at_T52 aS.out a2); cases aW) | ((with_reducible refine gate_dst (N := 7) rfl ?_); refine box_event rfl (N := 7) rfl (cs := #[.string (⟨#[]⟩ : ByteArray), .string (⟨#[]⟩ : ByteArray), .slice none 0 0]) (t := 52) hr_ ?_; intro aI hg gK hbox hb; have aD := q_ (hbox); have aH := ge_ hg (bs_ HB.out aE.out); replace HB := q_ (below_step (bs_ HB.out aE.out) hb); have aA := q_ ((by rw [hg]; exact Nat.ne_of_lt (blk_lt (g := aF) (o := .cells #[.int .i64 aK, .int .i64 aJ, .slice (some aG) aB.length aQ] 27 (0, 0)) (bk_ aC.out)) : aF ≠ aI)); have aL := q_ ((by rw [hg]; exact Nat.ne_of_gt (blk_lt (g := aF) (o := .cells #[.int .i64 aK, .int .i64 aJ, .slice (some aG) aB.length aQ] 27 (0, 0)) (bk_ aC.out)) : aI ≠ aF)); replace aC := q_ (bb_ aC.out hb); clear hb hbox hg; have fR := aL.out; have fN := aA.out; obtain ⟨eR, eQ, eP, dT, dS, dR⟩ := bx3_ aD.out) | (go_at_call 54; (with_reducible refine (spec_PairOk.calls k ((rd_T52 aB a2).f0.f0) ((rd_T52 aB a2).f0.f1) true _ A6.out).mono ?_); rintro e fZ ⟨rfl, hb⟩; replace aC := q_ (blk_below (g := aF) (o := .cells #[.int .i64 aK, .int .i64 aJ, .slice (some aG) aB.length aQ] 27 (0, 0)) (by (with_reducible repeat (first | refine blk_drewN ?_ _ | refine blk_drew ?_ | refine blk_alloc ?_ _)); refine blk_far ?_ aA.out _; (with_reducible repeat (first | refine blk_drewN ?_ _ | refine blk_drew ?_ | refine blk_alloc ?_ _)); refine blk_far ?_ aA.out _; (with_reducible repeat (first | refine blk_drewN ?_ _ | refine blk_drew ?_ | refine blk_alloc ?_ _)); refine blk_far ?_ aA.out _; (with_reducible repeat (first | refine blk_drewN ?_ _ | refine blk_drew ?_ | refine blk_alloc ?_ _)); exact aC.out) hb); replace aD := q_ (blk_below (g := aI) (o := .cells #[.string ((rd_T52 aB a2).f0.f0), .string ((rd_T52 aB a2).f0.f1), .slice aP ((rd_T52 aB a2).f1).length aO] 52 (0, 0)) (by (with_reducible repeat (first | refine blk_drewN ?_ _ | refine blk_drew ?_ | refine blk_alloc ?_ _)); refine blk_put (cs := #[.string ((rd_T52 aB a2).f0.f0), .string ((rd_T52 aB a2).f0.f1), .slice none 0 0]) ?_ 2 _ rfl; (with_reducible repeat (first | refine blk_drewN ?_ _ | refine blk_drew ?_ | refine blk_alloc ?_ _)); refine blk_put (cs := #[.string ((rd_T52 aB a2).f0.f0), .string (⟨#[]⟩ : ByteArray), .slice none 0 0]) ?_ 1 _ rfl; (with_reducible repeat (first | refine blk_drewN ?_ _ | refine blk_drew ?_ | refine blk_alloc ?_ _)); refine blk_put (cs := #[.string (⟨#[]⟩ : ByteArray), .string (⟨#[]⟩ : ByteArray), .slice none 0 0]) ?_ 0 _ rfl; (with_reducible repeat (first | refine blk_drewN ?_ _ | refine blk_drew ?_ | refine blk_alloc ?_ _)); exact aD.out) hb); replace HB := q_ (below_step (b2_ HB.out aE.out aH.out) hb); (try clear hb); obtain ⟨cF, cE, cD, bH, bG, bF⟩ := bx3_ aD.out; obtain ⟨cC, cB, cA, bE, bD, bC⟩ := bx3_ aC.out) | (go_at_call 55; (with_reducible refine (spec_CheckPath.calls k ((rd_T52 aB a2).f0.f0) ((rd_T52 aB a2).f0.f1) (wrap64 (aJ + a2)) aK _ _ ((rd_T52 aB a2).f1) a0 false _ ?side1 ?side2 A8.out).mono ?_); (case side1 => exact kc_ (Kd.C_below aM.out HB.out)); (case side2 => exact aN.out); rintro e fY ⟨rfl, hb⟩; replace aC := q_ (bb_ aC.out hb); replace aD := q_ (bb_ aD.out hb); replace HB := q_ (below_step (b2_ HB.out aE.out aH.out) hb); (try clear hb)))
   repeat (go_quiet (first | (go_at_call 54; (with_reducible refine (spec_PairOk.calls k ((rd_T52 aB a2).f0.f0) ((rd_T52 aB a2).f0.f1) true _ A6.out).mono ?_); rintro e fZ ⟨rfl, hb⟩; replace aC := q_ (blk_below (g := aF) (o := .cells #[.int .i64 aK, .int .i64 aJ, .slice (some aG) aB.length aQ] 27 (0, 0)) (by (with_reducible repeat (first | refine blk_drewN ?_ _ | refine blk_drew ?_ | refine blk_alloc ?_ _)); refine blk_far ?_ aA.out _; (with_reducible repeat (first | refine blk_drewN ?_ _ | refine blk_drew ?_ | refine blk_alloc ?_ _)); refine blk_far ?_ aA.out _; (with_reducible repeat (first | refine blk_drewN ?_ _ | refine blk_drew ?_ | refine blk_alloc ?_ _)); refine blk_far ?_ aA.out _; (with_reducible repeat (first | refine blk_drewN ?_ _ | refine blk_drew ?_ | refine blk_alloc ?_ _)); exact aC.out) hb); replace aD := q_ (blk_below (g := aI) (o := .cells #[.string ((rd_T52 aB a2).f0.f0), .string ((rd_T52 aB a2).f0.f1), .slice aP ((rd_T52 aB a2).f1).length aO] 52 (0, 0)) (by (with_reducible repeat (first | refine blk_drewN ?_ _ | refine blk_drew ?_ | refine blk_alloc ?_ _)); refine blk_put (cs := #[.string ((rd_T52 aB a2).f0.f0), .string ((rd_T52 aB a2).f0.f1), .slice none 0 0]) ?_ 2 _ rfl; (with_reducible repeat (first | refine blk_drewN ?_ _ | refine blk_drew ?_ | refine blk_alloc ?_ _)); refine blk_put (cs := #[.string ((rd_T52 aB a2).f0.f0), .string (⟨#[]⟩ : ByteArray), .slice none 0 0]) ?_ 1 _ rfl; (with_reducible repeat (first | refine blk_drewN ?_ _ | refine blk_drew ?_ | refine blk_alloc ?_ _)); refine blk_put (cs := #[.string (⟨#[]⟩ : ByteArray), .string (⟨#[]⟩ : ByteArray), .slice none 0 0]) ?_ 0 _ rfl; (with_reducible repeat (first | refine blk_drewN ?_ _ | refine blk_drew ?_ | refine blk_alloc ?_ _)); exact aD.out) hb); replace HB := q_ (below_step (b2_ HB.out aE.out aH.out) hb); (try clear hb); obtain ⟨cF, cE, cD, bH, bG, bF⟩ := bx3_ aD.out; obtain ⟨cC, cB, cA, bE, bD, bC⟩ := bx3_ aC.out) | (go_at_call 55; (with_reducible refine (spec_CheckPath.calls k ((rd_T52 aB a2).f0.f0) ((rd_T52 aB a2).f0.f1) (wrap64 (aJ + a2)) aK _ _ ((rd_T52 aB a2).f1) a0 false _ ?side1 ?side2 A8.out).mono ?_); (case side1 => exact kc_ (Kd.C_below aM.out HB.out)); (case side2 => exact aN.out); rintro e fY ⟨rfl, hb⟩; replace aC := q_ (bb_ aC.out hb); replace aD := q_ (bb_ aD.out hb); replace HB := q_ (below_step (b2_ HB.out aE.out aH.out) hb); (try clear hb))); try go_wp2)
   go_ret
   exact ⟨rf_, b2_ HB.out aE.out aH.out⟩
  subst c9
  rw [if_pos rfl] at H
  by_cases dH : a2 = 0
  ·
   rw [if_pos dH] at H
   have dK := beq_iff_eq.mpr dH
   have dJ := bne_eq_false_iff_eq.mpr dH
   clear dH
   obtain rfl := Option.some.inj H
   go_enter Try.func29, Try.ntmps29
   go_wp2_with (first | ((with_reducible refine gate_dst (N := 4) rfl ?_); refine box_event rfl (N := 4) rfl (cs := #[.int .i64 aK, .int .i64 aJ, .slice aX aB.length aQ]) (t := 27) hr_ ?_; intro aF hg gP hbox hb; have aC := q_ (hbox); have aE := ge_ hg (be_ HB.out); replace HB := q_ (below_step (be_ HB.out) hb); clear hb hbox hg; obtain ⟨fG, fF, fE, eI, eH, eG⟩ := bx3_ aC.out; obtain ⟨aG, aP, aO, aW, aV, aU, aT, aN, aM, dD, dC⟩ := at3_ HB.out (at_T52 aS.out a2); cases aW) | ((with_reducible refine gate_dst (N := 7) rfl ?_); refine box_event rfl (N := 7) rfl (cs := #[.string (⟨#[]⟩ : ByteArray), .string (⟨#[]⟩ : ByteArray), .slice none 0 0]) (t := 52) hr_ ?_; intro aI hg gO hbox hb; have aD := q_ (hbox); have aH := ge_ hg (bs_ HB.out aE.out); replace HB := q_ (below_step (bs_ HB.out aE.out) hb); have aA := q_ ((by rw [hg]; exact Nat.ne_of_lt (blk_lt (g := aF) (o := .cells #[.int .i64 aK, .int .i64 aJ, .slice (some aG) aB.length aQ] 27 (0, 0)) (bk_ aC.out)) : aF ≠ aI)); have aL := q_ ((by rw [hg]; exact Nat.ne_of_gt (blk_lt (g := aF) (o := .cells #[.int .i64 aK, .int .i64 aJ, .slice (some aG) aB.length aQ] 27 (0, 0)) (bk_ aC.out)) : aI ≠ aF)); replace aC := q_ (bb_ aC.out hb); clear hb hbox hg; have fT := aL.out; have fP := aA.out; obtain ⟨fD, fC, fB, eF, eE, eD⟩ := bx3_ aD.out) | (go_at_call 54; (with_reducible refine (spec_PairOk.calls k ((rd_T52 aB a2).f0.f0) ((rd_T52 aB a2).f0.f1) true _ A6.out).mono ?_); rintro e w16 ⟨rfl, hb⟩; replace aC := q_ (blk_below (g := aF) (o := .cells #[.int .i64 aK, .int .i64 aJ, .slice (some aG) aB.length aQ] 27 (0, 0)) (by (with_reducible repeat (first | refine blk_drewN ?_ _ | refine blk_drew ?_ | refine blk_alloc ?_ _)); refine blk_far ?_ aA.out _; (with_reducible repeat (first | refine blk_drewN ?_ _ | refine blk_drew ?_ | refine blk_alloc ?_ _)); refine blk_far ?_ aA.out _; (with_reducible repeat (first | refine blk_drewN ?_ _ | refine blk_drew ?_ | refine blk_alloc ?_ _)); refine blk_far ?_ aA.out _; (with_reducible repeat (first | refine blk_drewN ?_ _ | refine blk_drew ?_ | refine blk_alloc ?_ _)); exact aC.out) hb); replace aD := q_ (blk_below (g := aI) (o := .cells #[.string ((rd_T52 aB a2).f0.f0), .string ((rd_T52 aB a2).f0.f1), .slice aP ((rd_T52 aB a2).f1).length aO] 52 (0, 0)) (by (with_reducible repeat (first | refine blk_drewN ?_ _ | refine blk_drew ?_ | refine blk_alloc ?_ _)); refine blk_put (cs := #[.string ((rd_T52 aB a2).f0.f0), .string ((rd_T52 aB a2).f0.f1), .slice none 0 0]) ?_ 2 _ rfl; (with_reducible repeat (first | refine blk_drewN ?_ _ | refine blk_drew ?_ | refine blk_alloc ?_ _)); refine blk_put (cs := #[.string ((rd_T52 aB a2).f0.f0), .string (⟨#[]⟩ : ByteArray), .slice none 0 0]) ?_ 1 _ rfl; (with_reducible repeat (first | refine blk_drewN ?_ _ | refine blk_drew ?_ | refine blk_alloc ?_ _)); refine blk_put (cs := #[.string (⟨#[]⟩ : ByteArray), .string (⟨#[]⟩ : ByteArray), .slice none 0 0]) ?_ 0 _ rfl; (with_reducible repeat (first | refine blk_drewN ?_ _ | refine blk_drew ?_ | refine blk_alloc ?_ _)); exact aD.out) hb); replace HB := q_ (below_step (b2_ HB.out aE.out aH.out) hb); (try clear hb); obtain ⟨cX, cW, cV, bZ, bY, bX⟩ := bx3_ aD.out; obtain ⟨cU, cT, cS, bW, bV, bU⟩ := bx3_ aC.out) | (go_at_call 55; (with_reducible refine (spec_CheckPath.calls k ((rd_T52 aB a2).f0.f0) ((rd_T52 aB a2).f0.f1) (wrap64 (aJ + a2)) aK _ _ ((rd_T52 aB a2).f1) a0 true _ ?side1 ?side2 A8.out).mono ?_); (case side1 => exact kc_ (Kd.C_below aM.out HB.out)); (case side2 => exact aN.out); rintro e gC ⟨rfl, hb⟩; replace aC := q_ (bb_ aC.out hb); replace aD := q_ (bb_ aD.out hb); replace HB := q_ (below_step (b2_ HB.out aE.out aH.out) hb); (try clear hb)))
   repeat (go_quiet (first | (go_at_call 54; (with_reducible refine (spec_PairOk.calls k ((rd_T52 aB a2).f0.f0) ((rd_T52 aB a2).f0.f1) true _ A6.out).mono ?_); rintro e w16 ⟨rfl, hb⟩; replace aC := q_ (blk_below (g := aF) (o := .cells #[.int .i64 aK, .int .i64 aJ, .slice (some aG) aB.length aQ] 27 (0, 0)) (by (with_reducible repeat (first | refine blk_drewN ?_ _ | refine blk_drew ?_ | refine blk_alloc ?_ _)); refine blk_far ?_ aA.out _; (with_reducible repeat (first | refine blk_drewN ?_ _ | refine blk_drew ?_ | refine blk_alloc ?_ _)); refine blk_far ?_ aA.out _; (with_reducible repeat (first | refine blk_drewN ?_ _ | refine blk_drew ?_ | refine blk_alloc ?_ _)); refine blk_far ?_ aA.out _; (with_reducible repeat (first | refine blk_drewN ?_ _ | refine blk_drew ?_ | refine blk_alloc ?_ _)); exact aC.out) hb); replace aD := q_ (blk_below (g := aI) (o := .cells #[.string ((rd_T52 aB a2).f0.f0), .string ((rd_T52 aB a2).f0.f1), .slice aP ((rd_T52 aB a2).f1).length aO] 52 (0, 0)) (by (with_reducible repeat (first | refine blk_drewN ?_ _ | refine blk_drew ?_ | refine blk_alloc ?_ _)); refine blk_put (cs := #[.string ((rd_T52 aB a2).f0.f0), .string ((rd_T52 aB a2).f0.f1), .slice none 0 0]) ?_ 2 _ rfl; (with_reducible repeat (first | refine blk_drewN ?_ _ | refine blk_drew ?_ | refine blk_alloc ?_ _)); refine blk_put (cs := #[.string ((rd_T52 aB a2).f0.f0), .string (⟨#[]⟩ : ByteArray), .slice none 0 0]) ?_ 1 _ rfl; (with_reducible repeat (first | refine blk_drewN ?_ _ | refine blk_drew ?_ | refine blk_alloc ?_ _)); refine blk_put (cs := #[.string (⟨#[]⟩ : ByteArray), .string (⟨#[]⟩ : ByteArray), .slice none 0 0]) ?_ 0 _ rfl; (with_reducible repeat (first | refine blk_drewN ?_ _ | refine blk_drew ?_ | refine blk_alloc ?_ _)); exact aD.out) hb); replace HB := q_ (below_step (b2_ HB.out aE.out aH.out) hb); (try clear hb); obtain ⟨cX, cW, cV, bZ, bY, bX⟩ := bx3_ aD.out; obtain ⟨cU, cT, cS, bW, bV, bU⟩ := bx3_ aC.out) | (go_at_call 55; (with_reducible refine (spec_CheckPath.calls k ((rd_T52 aB a2).f0.f0) ((rd_T52 aB a2).f0.f1) (wrap64 (aJ + a2)) aK _ _ ((rd_T52 aB a2).f1) a0 true _ ?side1 ?side2 A8.out).mono ?_); (case side1 => exact kc_ (Kd.C_below aM.out HB.out)); (case side2 => exact aN.out); rintro e gC ⟨rfl, hb⟩; replace aC := q_ (bb_ aC.out hb); replace aD := q_ (bb_ aD.out hb); replace HB := q_ (below_step (b2_ HB.out aE.out aH.out) hb); (try clear hb))); try go_wp2)
   go_ret
   exact ⟨rf_, b2_ HB.out aE.out aH.out⟩
  rw [if_neg dH] at H
  have dK := beq_eq_false_iff_ne.mpr dH
  have dJ := bne_iff_ne.mpr dH
  obtain ⟨dE, aR⟩ : ∃ j_ : Int, (wrap64 (a2 - 1)) = j_ := ⟨_, rfl⟩
  first | rw [aR] at H | simp only [aR] at H
  (try rw [aR] at A6)
  (try rw [aR] at A8)
  have fL : (IntKind.i64.wrap (a2 - 1)) = dE := (i64_w _).trans aR
  obtain ⟨fV, H⟩ := id_ H
  obtain ⟨fU, H⟩ := id_ H
  obtain rfl := Option.some.inj H
  go_enter Try.func29, Try.ntmps29
  go_wp2_with (first | ((with_reducible refine gate_dst (N := 4) rfl ?_); refine box_event rfl (N := 4) rfl (cs := #[.int .i64 aK, .int .i64 aJ, .slice aX aB.length aQ]) (t := 27) hr_ ?_; intro aF hg gN hbox hb; have aC := q_ (hbox); have aE := ge_ hg (be_ HB.out); replace HB := q_ (below_step (be_ HB.out) hb); clear hb hbox hg; obtain ⟨fA, eZ, eY, eC, eB, eA⟩ := bx3_ aC.out; obtain ⟨aG, aP, aO, aW, aV, aU, aT, aN, aM, dD, dC⟩ := at3_ HB.out (at_T52 aS.out a2); cases aW) | ((with_reducible refine gate_dst (N := 7) rfl ?_); refine box_event rfl (N := 7) rfl (cs := #[.string (⟨#[]⟩ : ByteArray), .string (⟨#[]⟩ : ByteArray), .slice none 0 0]) (t := 52) hr_ ?_; intro aI hg gM hbox hb; have aD := q_ (hbox); have aH := ge_ hg (bs_ HB.out aE.out); replace HB := q_ (below_step (bs_ HB.out aE.out) hb); have aA := q_ ((by rw [hg]; exact Nat.ne_of_lt (blk_lt (g := aF) (o := .cells #[.int .i64 aK, .int .i64 aJ, .slice (some aG) aB.length aQ] 27 (0, 0)) (bk_ aC.out)) : aF ≠ aI)); have aL := q_ ((by rw [hg]; exact Nat.ne_of_gt (blk_lt (g := aF) (o := .cells #[.int .i64 aK, .int .i64 aJ, .slice (some aG) aB.length aQ] 27 (0, 0)) (bk_ aC.out)) : aI ≠ aF)); replace aC := q_ (bb_ aC.out hb); clear hb hbox hg; have fS := aL.out; have fO := aA.out; obtain ⟨eX, eW, eV, dZ, dY, dX⟩ := bx3_ aD.out) | (go_at_call 54; (with_reducible refine (spec_PairOk.calls k ((rd_T52 aB a2).f0.f0) ((rd_T52 aB a2).f0.f1) true _ A6.out).mono ?_); rintro e gB ⟨rfl, hb⟩; replace aC := q_ (blk_below (g := aF) (o := .cells #[.int .i64 aK, .int .i64 aJ, .slice (some aG) aB.length aQ] 27 (0, 0)) (by (with_reducible repeat (first | refine blk_drewN ?_ _ | refine blk_drew ?_ | refine blk_alloc ?_ _)); refine blk_far ?_ aA.out _; (with_reducible repeat (first | refine blk_drewN ?_ _ | refine blk_drew ?_ | refine blk_alloc ?_ _)); refine blk_far ?_ aA.out _; (with_reducible repeat (first | refine blk_drewN ?_ _ | refine blk_drew ?_ | refine blk_alloc ?_ _)); refine blk_far ?_ aA.out _; (with_reducible repeat (first | refine blk_drewN ?_ _ | refine blk_drew ?_ | refine blk_alloc ?_ _)); exact aC.out) hb); replace aD := q_ (blk_below (g := aI) (o := .cells #[.string ((rd_T52 aB a2).f0.f0), .string ((rd_T52 aB a2).f0.f1), .slice aP ((rd_T52 aB a2).f1).length aO] 52 (0, 0)) (by (with_reducible repeat (first | refine blk_drewN ?_ _ | refine blk_drew ?_ | refine blk_alloc ?_ _)); refine blk_put (cs := #[.string ((rd_T52 aB a2).f0.f0), .string ((rd_T52 aB a2).f0.f1), .slice none 0 0]) ?_ 2 _ rfl; (with_reducible repeat (first | refine blk_drewN ?_ _ | refine blk_drew ?_ | refine blk_alloc ?_ _)); refine blk_put (cs := #[.string ((rd_T52 aB a2).f0.f0), .string (⟨#[]⟩ : ByteArray), .slice none 0 0]) ?_ 1 _ rfl; (with_reducible repeat (first | refine blk_drewN ?_ _ | refine blk_drew ?_ | refine blk_alloc ?_ _)); refine blk_put (cs := #[.string (⟨#[]⟩ : ByteArray), .string (⟨#[]⟩ : ByteArray), .slice none 0 0]) ?_ 0 _ rfl; (with_reducible repeat (first | refine blk_drewN ?_ _ | refine blk_drew ?_ | refine blk_alloc ?_ _)); exact aD.out) hb); replace HB := q_ (below_step (b2_ HB.out aE.out aH.out) hb); (try clear hb); obtain ⟨cR, cQ, cP, bT, bS, bR⟩ := bx3_ aD.out; obtain ⟨cO, cN, cM, bQ, bP, bO⟩ := bx3_ aC.out) | (go_at_call 55; (with_reducible refine (spec_CheckPath.calls k ((rd_T52 aB a2).f0.f0) ((rd_T52 aB a2).f0.f1) (wrap64 (aJ + a2)) aK _ _ ((rd_T52 aB a2).f1) a0 true _ ?side1 ?side2 A8.out).mono ?_); (case side1 => exact kc_ (Kd.C_below aM.out HB.out)); (case side2 => exact aN.out); rintro e gA ⟨rfl, hb⟩; replace aC := q_ (bb_ aC.out hb); replace aD := q_ (bb_ aD.out hb); replace HB := q_ (below_step (b2_ HB.out aE.out aH.out) hb); (try clear hb); obtain ⟨cL, cK, cJ, bN, bM, bL⟩ := bx3_ aC.out; obtain ⟨aY, dI, dG, dF, bB, bA, aZ, cZ, cY, fK, fJ⟩ := at3_ HB.out (at_T52 aS.out (dE)); obtain rfl : aG = aY := (by injection dF); obtain ⟨cI, cH, cG, bK, bJ, bI⟩ := bx3_ aD.out))
  repeat (go_quiet (first | (go_at_call 54; (with_reducible refine (spec_PairOk.calls k ((rd_T52 aB a2).f0.f0) ((rd_T52 aB a2).f0.f1) true _ A6.out).mono ?_); rintro e gB ⟨rfl, hb⟩; replace aC := q_ (blk_below (g := aF) (o := .cells #[.int .i64 aK, .int .i64 aJ, .slice (some aG) aB.length aQ] 27 (0, 0)) (by (with_reducible repeat (first | refine blk_drewN ?_ _ | refine blk_drew ?_ | refine blk_alloc ?_ _)); refine blk_far ?_ aA.out _; (with_reducible repeat (first | refine blk_drewN ?_ _ | refine blk_drew ?_ | refine blk_alloc ?_ _)); refine blk_far ?_ aA.out _; (with_reducible repeat (first | refine blk_drewN ?_ _ | refine blk_drew ?_ | refine blk_alloc ?_ _)); refine blk_far ?_ aA.out _; (with_reducible repeat (first | refine blk_drewN ?_ _ | refine blk_drew ?_ | refine blk_alloc ?_ _)); exact aC.out) hb); replace aD := q_ (blk_below (g := aI) (o := .cells #[.string ((rd_T52 aB a2).f0.f0), .string ((rd_T52 aB a2).f0.f1), .slice aP ((rd_T52 aB a2).f1).length aO] 52 (0, 0)) (by (with_reducible repeat (first | refine blk_drewN ?_ _ | refine blk_drew ?_ | refine blk_alloc ?_ _)); refine blk_put (cs := #[.string ((rd_T52 aB a2).f0.f0), .string ((rd_T52 aB a2).f0.f1), .slice none 0 0]) ?_ 2 _ rfl; (with_reducible repeat (first | refine blk_drewN ?_ _ | refine blk_drew ?_ | refine blk_alloc ?_ _)); refine blk_put (cs := #[.string ((rd_T52 aB a2).f0.f0), .string (⟨#[]⟩ : ByteArray), .slice none 0 0]) ?_ 1 _ rfl; (with_reducible repeat (first | refine blk_drewN ?_ _ | refine blk_drew ?_ | refine blk_alloc ?_ _)); refine blk_put (cs := #[.string (⟨#[]⟩ : ByteArray), .string (⟨#[]⟩ : ByteArray), .slice none 0 0]) ?_ 0 _ rfl; (with_reducible repeat (first | refine blk_drewN ?_ _ | refine blk_drew ?_ | refine blk_alloc ?_ _)); exact aD.out) hb); replace HB := q_ (below_step (b2_ HB.out aE.out aH.out) hb); (try clear hb); obtain ⟨cR, cQ, cP, bT, bS, bR⟩ := bx3_ aD.out; obtain ⟨cO, cN, cM, bQ, bP, bO⟩ := bx3_ aC.out) | (go_at_call 55; (with_reducible refine (spec_CheckPath.calls k ((rd_T52 aB a2).f0.f0) ((rd_T52 aB a2).f0.f1) (wrap64 (aJ + a2)) aK _ _ ((rd_T52 aB a2).f1) a0 true _ ?side1 ?side2 A8.out).mono ?_); (case side1 => exact kc_ (Kd.C_below aM.out HB.out)); (case side2 => exact aN.out); rintro e gA ⟨rfl, hb⟩; replace aC := q_ (bb_ aC.out hb); replace aD := q_ (bb_ aD.out hb); replace HB := q_ (below_step (b2_ HB.out aE.out aH.out) hb); (try clear hb); obtain ⟨cL, cK, cJ, bN, bM, bL⟩ := bx3_ aC.out; obtain ⟨aY, dI, dG, dF, bB, bA, aZ, cZ, cY, fK, fJ⟩ := at3_ HB.out (at_T52 aS.out (dE)); obtain rfl : aG = aY := (by injection dF); obtain ⟨cI, cH, cG, bK, bJ, bI⟩ := bx3_ aD.out)); try go_wp2)
  go_ret
  exact ⟨by first | rfl | (simp [errW_none, errW_some] <;> rfl) | (simp only [← aR]; first | rfl | (simp [errW_none, errW_some] <;> rfl)) | (simp [*, errW_none, errW_some] <;> rfl), b2_ HB.out aE.out aH.out⟩
 ·
  replace c7 := Bool.eq_false_iff.mpr c7
  subst c7
  rw [if_neg (show ¬ (false = true) by decide)] at H
  obtain rfl := Option.some.inj H
  go_enter Try.func29, Try.ntmps29
  go_wp2_with (first | ((with_reducible refine gate_dst (N := 4) rfl ?_); refine box_event rfl (N := 4) rfl (cs := #[.int .i64 aK, .int .i64 aJ, .slice aX aB.length aQ]) (t := 27) hr_ ?_; intro aF hg gJ hbox hb; have aC := q_ (hbox); have aE := ge_ hg (be_ HB.out); replace HB := q_ (below_step (be_ HB.out) hb); clear hb hbox hg; obtain ⟨eO, eN, eM, dQ, dP, dO⟩ := bx3_ aC.out; obtain ⟨aG, aP, aO, aW, aV, aU, aT, aN, aM, dD, dC⟩ := at3_ HB.out (at_T52 aS.out a2); cases aW) | ((with_reducible refine gate_dst (N := 7) rfl ?_); refine box_event rfl (N := 7) rfl (cs := #[.string (⟨#[]⟩ : ByteArray), .string (⟨#[]⟩ : ByteArray), .slice none 0 0]) (t := 52) hr_ ?_; intro aI hg gI hbox hb; have aD := q_ (hbox); have aH := ge_ hg (bs_ HB.out aE.out); replace HB := q_ (below_step (bs_ HB.out aE.out) hb); have aA := q_ ((by rw [hg]; exact Nat.ne_of_lt (blk_lt (g := aF) (o := .cells #[.int .i64 aK, .int .i64 aJ, .slice (some aG) aB.length aQ] 27 (0, 0)) (bk_ aC.out)) : aF ≠ aI)); have aL := q_ ((by rw [hg]; exact Nat.ne_of_gt (blk_lt (g := aF) (o := .cells #[.int .i64 aK, .int .i64 aJ, .slice (some aG) aB.length aQ] 27 (0, 0)) (bk_ aC.out)) : aI ≠ aF)); replace aC := q_ (bb_ aC.out hb); clear hb hbox hg; have fQ := aL.out; have fM := aA.out; obtain ⟨eL, eK, eJ, dN, dM, dL⟩ := bx3_ aD.out) | (go_at_call 54; (with_reducible refine (spec_PairOk.calls k ((rd_T52 aB a2).f0.f0) ((rd_T52 aB a2).f0.f1) false _ A6.out).mono ?_); rintro e fX ⟨rfl, hb⟩; replace aC := q_ (blk_below (g := aF) (o := .cells #[.int .i64 aK, .int .i64 aJ, .slice (some aG) aB.length aQ] 27 (0, 0)) (by (with_reducible repeat (first | refine blk_drewN ?_ _ | refine blk_drew ?_ | refine blk_alloc ?_ _)); refine blk_far ?_ aA.out _; (with_reducible repeat (first | refine blk_drewN ?_ _ | refine blk_drew ?_ | refine blk_alloc ?_ _)); refine blk_far ?_ aA.out _; (with_reducible repeat (first | refine blk_drewN ?_ _ | refine blk_drew ?_ | refine blk_alloc ?_ _)); refine blk_far ?_ aA.out _; (with_reducible repeat (first | refine blk_drewN ?_ _ | refine blk_drew ?_ | refine blk_alloc ?_ _)); exact aC.out) hb); replace aD := q_ (blk_below (g := aI) (o := .cells #[.string ((rd_T52 aB a2).f0.f0), .string ((rd_T52 aB a2).f0.f1), .slice aP ((rd_T52 aB a2).f1).length aO] 52 (0, 0)) (by (with_reducible repeat (first | refine blk_drewN ?_ _ | refine blk_drew ?_ | refine blk_alloc ?_ _)); refine blk_put (cs := #[.string ((rd_T52 aB a2).f0.f0), .string ((rd_T52 aB a2).f0.f1), .slice none 0 0]) ?_ 2 _ rfl; (with_reducible repeat (first | refine blk_drewN ?_ _ | refine blk_drew ?_ | refine blk_alloc ?_ _)); refine blk_put (cs := #[.string ((rd_T52 aB a2).f0.f0), .string (⟨#[]⟩ : ByteArray), .slice none 0 0]) ?_ 1 _ rfl; (with_reducible repeat (first | refine blk_drewN ?_ _ | refine blk_drew ?_ | refine blk_alloc ?_ _)); refine blk_put (cs := #[.string (⟨#[]⟩ : ByteArray), .string (⟨#[]⟩ : ByteArray), .slice none 0 0]) ?_ 0 _ rfl; (with_reducible repeat (first | refine blk_drewN ?_ _ | refine blk_drew ?_ | refine blk_alloc ?_ _)); exact aD.out) hb); replace HB := q_ (below_step (b2_ HB.out aE.out aH.out) hb); (try clear hb)))
  repeat (go_quiet (first | (go_at_call 54; (with_reducible refine (spec_PairOk.calls k ((rd_T52 aB a2).f0.f0) ((rd_T52 aB a2).f0.f1) false _ A6.out).mono ?_); rintro e fX ⟨rfl, hb⟩; replace aC := q_ (blk_below (g := aF) (o := .cells #[.int .i64 aK, .int .i64 aJ, .slice (some aG) aB.length aQ] 27 (0, 0)) (by (with_reducible repeat (first | refine blk_drewN ?_ _ | refine blk_drew ?_ | refine blk_alloc ?_ _)); refine blk_far ?_ aA.out _; (with_reducible repeat (first | refine blk_drewN ?_ _ | refine blk_drew ?_ | refine blk_alloc ?_ _)); refine blk_far ?_ aA.out _; (with_reducible repeat (first | refine blk_drewN ?_ _ | refine blk_drew ?_ | refine blk_alloc ?_ _)); refine blk_far ?_ aA.out _; (with_reducible repeat (first | refine blk_drewN ?_ _ | refine blk_drew ?_ | refine blk_alloc ?_ _)); exact aC.out) hb); replace aD := q_ (blk_below (g := aI) (o := .cells #[.string ((rd_T52 aB a2).f0.f0), .string ((rd_T52 aB a2).f0.f1), .slice aP ((rd_T52 aB a2).f1).length aO] 52 (0, 0)) (by (with_reducible repeat (first | refine blk_drewN ?_ _ | refine blk_drew ?_ | refine blk_alloc ?_ _)); refine blk_put (cs := #[.string ((rd_T52 aB a2).f0.f0), .string ((rd_T52 aB a2).f0.f1), .slice none 0 0]) ?_ 2 _ rfl; (with_reducible repeat (first | refine blk_drewN ?_ _ | refine blk_drew ?_ | refine blk_alloc ?_ _)); refine blk_put (cs := #[.string ((rd_T52 aB a2).f0.f0), .string (⟨#[]⟩ : ByteArray), .slice none 0 0]) ?_ 1 _ rfl; (with_reducible repeat (first | refine blk_drewN ?_ _ | refine blk_drew ?_ | refine blk_alloc ?_ _)); refine blk_put (cs := #[.string (⟨#[]⟩ : ByteArray), .string (⟨#[]⟩ : ByteArray), .slice none 0 0]) ?_ 0 _ rfl; (with_reducible repeat (first | refine blk_drewN ?_ _ | refine blk_drew ?_ | refine blk_alloc ?_ _)); exact aD.out) hb); replace HB := q_ (below_step (b2_ HB.out aE.out aH.out) hb); (try clear hb))); try go_wp2)
  go_ret
  exact ⟨rf_, b2_ HB.out aE.out aH.out⟩
end Go.Proofs.Ytgmfhchhbidlnaa.P
