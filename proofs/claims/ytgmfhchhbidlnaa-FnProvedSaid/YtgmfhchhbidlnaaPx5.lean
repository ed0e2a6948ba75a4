import Derived.Test.YtgmfhchhbidlnaaPx0
import Derived.Test.YtgmfhchhbidlnaaPx3
namespace Go.Proofs.Ytgmfhchhbidlnaa.P
open Go.RowKit Go.Proofs.YtgmfhchhbidlnaaW.PrintWords Go.Proofs.YtgmfhchhbidlnaaW.PrintLast Go.Proofs.YtgmfhchhbidlnaaW.PrintMore
attribute [local go_sem] max2_int min2_int max_two min_two max_three min_three max_four min_four
set_option linter.unusedVariables false
set_option maxHeartbeats 8000000
set_option maxRecDepth 100000
set_option linter.unusedSimpArgs false
mutual
def spec_l2Block.l0 : Nat → List Int → List Int → List Int → List Int → Int → Option (List Int)
 | 0, _, _, _, _, _ => none
 | k + 1, x0, x2, x7, x8, x9 => if x9 < 64 then (if 4 < (x8.length : Int) then ((spec_l2Turn.f (rd x8 4) 6).bind fun aD => ((spec_l2Turn.f (rd x8 4) 11).bind fun aC => ((spec_l2Turn.f (rd x8 4) 25).bind fun aB => (if 5 < (x8.length : Int) then (if 6 < (x8.length : Int) then (if 7 < (x8.length : Int) then (if 0 ≤ x9 then (if x9 < (x2.length : Int) then (if x9 < (x7.length : Int) then (if 0 < (x8.length : Int) then ((spec_l2Turn.f (rd x8 0) 2).bind fun aG => ((spec_l2Turn.f (rd x8 0) 13).bind fun aF => ((spec_l2Turn.f (rd x8 0) 22).bind fun aE => (if 1 < (x8.length : Int) then (if 2 < (x8.length : Int) then (if 3 < (x8.length : Int) then (spec_l2Block.l0 k x0 x2 x7 (([Go.bits .and .i64 (wrap64 ((wrap64 ((wrap64 ((wrap64 ((wrap64 ((rd x8 7) + (Go.bits .xor .i64 (Go.bits .xor .i64 aD aC) aB))) + (Go.bits .xor .i64 (Go.bits .and .i64 (rd x8 4) (rd x8 5)) (Go.bits .and .i64 (Go.bits .xor .i64 4294967295 (rd x8 4)) (rd x8 6))))) + (rd x2 x9))) + (rd x7 x9))) + (wrap64 ((Go.bits .xor .i64 (Go.bits .xor .i64 aG aF) aE) + (Go.bits .xor .i64 (Go.bits .xor .i64 (Go.bits .and .i64 (rd x8 0) (rd x8 1)) (Go.bits .and .i64 (rd x8 0) (rd x8 2))) (Go.bits .and .i64 (rd x8 1) (rd x8 2))))))) 4294967295, rd x8 0, rd x8 1, rd x8 2, Go.bits .and .i64 (wrap64 ((rd x8 3) + (wrap64 ((wrap64 ((wrap64 ((wrap64 ((rd x8 7) + (Go.bits .xor .i64 (Go.bits .xor .i64 aD aC) aB))) + (Go.bits .xor .i64 (Go.bits .and .i64 (rd x8 4) (rd x8 5)) (Go.bits .and .i64 (Go.bits .xor .i64 4294967295 (rd x8 4)) (rd x8 6))))) + (rd x2 x9))) + (rd x7 x9))))) 4294967295, rd x8 4, rd x8 5, rd x8 6] : List Int)) (wrap64 (x9 + 1))) else (none)) else (none)) else (none))))) else (none)) else (none)) else (none)) else (none)) else (none)) else (none)) else (none))))) else (none)) else (spec_l2Block.l1 k x0 x8 0)
def spec_l2Block.l1 : Nat → List Int → List Int → Int → Option (List Int)
 | 0, _, _, _ => none
 | k + 1, x0, x8, aA => if aA < 8 then (if 0 ≤ aA then (if aA < (x8.length : Int) then (if aA < (x0.length : Int) then (spec_l2Block.l1 k x0 (x8.set (aA : Int).toNat (Go.bits .and .i64 (wrap64 ((rd x8 aA) + (rd x0 aA))) 4294967295)) (wrap64 (aA + 1))) else (none)) else (none)) else (none)) else (some x8)
end
def spec_l2Block.f (k : Nat) (l0 : List Int) (l1 : List Int) (l2 : List Int) : Option (List Int) := (spec_l2Words.f k l1).bind fun aB => ((some (([] : List Int) : List Int)).bind fun aA => (if aA.length + l0.length < 17592186044416 then (spec_l2Block.l0 k l0 l2 aB (aA ++ l0) 0) else (none)))
def spec_l2Block.T8 : Bool × List (List Nat × List Nat) := (true, [([], []), ([], []), ([1], [1]), ([2], [2]), ([0, 3], [0, 3]), ([], []), ([5], [5]), ([], []), ([7], [7]), ([8], [8]), ([6, 9], [6, 9]), ([4, 10], [4, 10]), ([11, 0, 1, 2, 3, 4, 5, 6, 7, 8, 9, 10, 11], [11])])
def spec_l2Block.B8 : List Nat := [0, 0, 2, 6, 15, 0, 32, 0, 128, 384, 992, 2047, 4095]
theorem spec_l2Block.tab8 : rtab .any (opsOf Try.f72 8) = spec_l2Block.T8 := by kernel_rfl
theorem spec_l2Block.bits8 : waitsOk spec_l2Block.T8.2 spec_l2Block.B8 = true := by kernel_rfl
def spec_l2Block.T9 : Bool × List (List Nat × List Nat) := (true, [([], []), ([0], [0]), ([1], [1]), ([], []), ([2, 3], [2, 3]), ([], []), ([4, 5], [4, 5]), ([], []), ([], []), ([7, 8], [7, 8]), ([9], [9]), ([6, 10], [6, 10]), ([], []), ([], []), ([12, 13], [12, 13]), ([14], [14]), ([11, 15], [11, 15]), ([16, 0, 1, 2, 3, 4, 5, 6, 7, 8, 9, 10, 11, 12, 13, 14, 15, 16], [16])])
def spec_l2Block.B9 : List Nat := [0, 1, 3, 0, 15, 0, 63, 0, 0, 384, 896, 2047, 0, 0, 12288, 28672, 65535, 131071]
theorem spec_l2Block.tab9 : rtab .any (opsOf Try.f72 9) = spec_l2Block.T9 := by kernel_rfl
theorem spec_l2Block.bits9 : waitsOk spec_l2Block.T9.2 spec_l2Block.B9 = true := by kernel_rfl
def spec_l2Block.T12 : Bool × List (List Nat × List Nat) := (true, [([], []), ([], []), ([1], [1]), ([2], [2]), ([0, 3], [0, 3]), ([], []), ([], []), ([6], [6]), ([7], [7]), ([5, 8], [5, 8]), ([4, 9], [4, 9]), ([], []), ([11], [11]), ([12], [12]), ([], []), ([14], [14]), ([15], [15]), ([13, 16], [13, 16]), ([10, 17], [10, 17]), ([18, 0, 1, 2, 3, 4, 5, 6, 7, 8, 9, 10, 11, 12, 13, 14, 15, 16, 17, 18], [18])])
def spec_l2Block.B12 : List Nat := [0, 0, 2, 6, 15, 0, 0, 64, 192, 480, 1023, 0, 2048, 6144, 0, 16384, 49152, 129024, 262143, 524287]
theorem spec_l2Block.tab12 : rtab .any (opsOf Try.f72 12) = spec_l2Block.T12 := by kernel_rfl
theorem spec_l2Block.bits12 : waitsOk spec_l2Block.T12.2 spec_l2Block.B12 = true := by kernel_rfl
def spec_l2Block.T14 : Bool × List (List Nat × List Nat) := (true, [([], []), ([], []), ([0, 1], [0, 1]), ([2], [2]), ([], []), ([], []), ([5], [5]), ([6], [6]), ([], []), ([8], [8]), ([9], [9]), ([], []), ([11], [11]), ([12], [12]), ([], []), ([13, 14], [13, 14]), ([15], [15]), ([], []), ([], []), ([18], [18]), ([19], [19]), ([], []), ([21], [21]), ([22], [22]), ([3, 4, 7, 10, 16, 17, 20, 23], [3, 4, 7, 10, 16, 17, 20, 23]), ([24, 0, 1, 2, 3, 4, 5, 6, 7, 8, 9, 10, 11, 12, 13, 14, 15, 16, 17, 18, 19, 20, 21, 22, 23, 24], [5, 8, 11, 18, 21, 24])])
def spec_l2Block.B14 : List Nat := [0, 0, 3, 7, 0, 0, 32, 96, 0, 256, 768, 0, 2048, 6144, 0, 30720, 63488, 0, 0, 262144, 786432, 0, 2097152, 6291456, 16777215, 33554431]
theorem spec_l2Block.tab14 : rtab .any (opsOf Try.f72 14) = spec_l2Block.T14 := by kernel_rfl
theorem spec_l2Block.bits14 : waitsOk spec_l2Block.T14.2 spec_l2Block.B14 = true := by kernel_rfl
def spec_l2Block.T18 : Bool × List (List Nat × List Nat) := (true, [([], []), ([], []), ([], []), ([], []), ([2, 3], [2, 3]), ([4], [4]), ([], []), ([], []), ([6, 7], [6, 7]), ([8], [8]), ([5, 9], [5, 9]), ([10], [10]), ([0, 1, 0, 1, 2, 3, 4, 5, 6, 7, 8, 9, 10, 11], [0, 1]), ([12, 11, 0, 1, 2, 3, 4, 5, 6, 7, 8, 9, 10, 11], [11, 12])])
def spec_l2Block.B18 : List Nat := [0, 0, 0, 0, 12, 28, 0, 0, 192, 448, 1020, 2044, 4095, 8191]
theorem spec_l2Block.tab18 : rtab .any (opsOf Try.f72 18) = spec_l2Block.T18 := by kernel_rfl
theorem spec_l2Block.bits18 : waitsOk spec_l2Block.T18.2 spec_l2Block.B18 = true := by kernel_rfl
theorem spec_l2Block.calls (k : Nat) (A0 : Option Addr) (c0 : Nat) (l0 : List Int) (A1 : Option Addr) (c1 : Nat) (l1 : List Int) (A2 : Option Addr) (c2 : Nat) (l2 : List Int) (r : List Int) (w : World) (hB : Kd.C (Kd.int .i64) w A0 l0.length l0) (hF : l0.length ≤ c0) (hA : Kd.C (Kd.int .u8) w A1 l1.length l1) (hE : l1.length ≤ c1) (gZ : Kd.C (Kd.int .i64) w A2 l2.length l2) (hD : l2.length ≤ c2) (h : spec_l2Block.f k l0 l1 l2 = some r) :
 Calls Try.prog 72 #[.slice A0 l0.length c0, .slice A1 l1.length c1, .slice A2 l2.length c2] w fun e w' => ∃ v0_ : Value, e = .returned (v0_) ∧ Kd.R (Kd.int .i64) 3 w' w.heap.size (fun _ => True) v0_ r ∧ Below w.heap.size w w' := by
 have iM := Aside0.mk hB
 have jM := Aside0.mk hF
 clear hB hF
 have iX := Aside0.mk hA
 have iY := Aside0.mk hE
 clear hA hE
 have iW := Aside0.mk gZ
 have jL := Aside0.mk hD
 clear gZ hD
 have HB := q_ (Below.refl w.heap.size w)
 have H := h
 clear h
 unfold spec_l2Block.f at H
 obtain ⟨aI, A4, H⟩ := bo_ H
 obtain ⟨dT, cA, H⟩ := by_ H
 obtain ⟨gD, H⟩ := ia_ H
 obtain ⟨fB, bR⟩ : ∃ y_ : List Int, y_ = (dT ++ l0) := ⟨_, rfl⟩
 rw [← bR] at H
 have eT := Aside0.mk bR
 clear bR
 have H' := Aside0.mk H
 clear H
 go_enter Try.func72, Try.ntmps72
 go_wp2_with (first | ((with_reducible refine gate_callee (f := 86) rfl ?_); refine gl_ (some 20) Try.func86 #[.slice A1 l1.length c1] rfl al_ ?_; (with_reducible refine (spec_l2Words.calls k _ _ l1 aI _ ?side1 ?side2 A4.out).mono ?_); (case side1 => exact kc_ iX.out); (case side2 => exact iY.out); rintro e w6 ⟨bO, rfl, hC, hb⟩; refine ⟨_, rfl, ?_⟩; have aJ := q_ (Kd.R_lower hC (below_size (be_ HB.out))); replace HB := q_ (below_step (be_ HB.out) hb); (try clear hb); (try clear hC)) | ((with_reducible refine gate_dst (N := 21) rfl ?_); refine Kd.R_lit (Kd.int .i64) _ 3 ?hg (N := 21) ?hd (xs := ([] : List Int)) (inner := []) (ok := fun _ => True) (okp := fun _ => True) ?hr ?hp (fun _ hk => hk) trivial (Below.refl _ _) (Nat.le_refl _) (by simp) ?_; (case hd => rfl); (case hg => rfl); (case hr => first | (go_simp; done) | (go_simp; rfl)); (case hp => exact (Reps.none _ _)); intro fC w7 dQ hb hg_ hnew_; clear hg_ hnew_; (first | rw [← cA.out] at dQ | (simp only [Int.reduceToNat] at dQ; rw [← cA.out] at dQ)); have cB := q_ (Kd.R_lower (Kd.R_new' dQ (Kd.R_lt (kr_ aJ.out))) (below_size (be_ HB.out))); replace aJ := q_ (Kd.R_elder' (kr_ aJ.out) (Kd.R_base dQ) hb); replace HB := q_ (below_step (be_ HB.out) hb); clear hb dQ) | ((with_reducible refine gate_builtin (b := .append) (xs := #[.tmp 21, .tmp 22]) rfl ?_); at_builtin; refine Kd.R_append_rows (Kd.int .i64) (w0 := w) w.heap.size rfl (.tmp 21) (.tmp 22) 67 3 (.int .i64 0) 8 rfl Try.underlying67 info3 rfl (by decide) (by omega) fC dT l0 _ _ _ (fun k_ => some k_ ≠ (bO : Value).ownBlock) (fun _ => False) rfl rfl ?aO ?aR (fun _ _ h => h) (fun _ h => h.elim) ?aF ?aB ?aS ?aL ?_; (case aR => exact kc_ (Kd.C_below iM.out HB.out)); (case aB => exact (be_ HB.out)); (case aF => exact (fun k_ hk => Kd.fresh' (Kd.R_lt (kr_ aJ.out)) k_ hk)); (case aO => exact (by (with_reducible repeat (first | apply Kd.R_alloc | apply Kd.R_drewN | apply Kd.R_drew)); exact Kd.R_mono cB.out (fun _ hk => hk.2))); (case aS => exact (below_size (be_ HB.out))); (case aL => have := gD.out; omega); intro iR w9 ho hb hg hat; rw [← eT.out] at ho; have bY := q_ (Kd.R_after (ok := (fun _ => True)) (kr_ aJ.out) hg hat); have bX := q_ (hb); have bW := q_ (ho); clear aJ; clear HB; clear cB; have aJ := bY; have HB := bX; have eW := bW; clear bY bX bW; clear ho hb hg hat))
 go_loopg [8, 9] k (fun kq v8 v9 w' => ∃ (aA : List Int) (aG : Int), v9 = .int .i64 aG ∧ Aside0 (spec_l2Block.l0 kq l0 l2 aI aA aG = some r) ∧ Aside0 (kq ≤ k) ∧ Aside0 (Kd.R (Kd.int .i64) 3 w' w.heap.size (fun k_ => some k_ ≠ (v8 : Value).ownBlock) bO aI) ∧ Aside0 (Kd.R (Kd.int .i64) 3 w' w.heap.size (fun k_ => some k_ ≠ (bO : Value).ownBlock) v8 aA) ∧ Aside0 (Below w.heap.size w w'))
 case atStart => exact ⟨(fB), (0), rs_, H', ⟨Nat.le_refl _⟩, ⟨by (with_reducible repeat (first | apply Kd.R_alloc | apply Kd.R_drewN | apply Kd.R_drew)); exact Kd.R_mono aJ.out (fun _ hk => hk.2)⟩, ⟨kr_ eW.out⟩, ⟨be_ HB.out⟩⟩
 case round =>
  clear H'
  obtain ⟨aA, aG, rfl, HA, eY, aH, aD, HB⟩ := hrel
  cases gk with
  | zero => exact absurd HA.out (by simp [spec_l2Block.l0])
  | succ k1 =>
   have H := HA.out
   clear HA
   simp only [spec_l2Block.l0] at H
   by_cases dS : aG < 64
   ·
    rw [if_pos dS] at H
    have eC := decide_eq_true dS
    clear dS
    obtain ⟨iK, H⟩ := ip_ H
    have iJ : decide (4 < (aA.length : Int)) = true := decide_eq_true iK
    have iI : decide (4 < aA.length) = true := decide_eq_true (by omega)
    clear iK
    obtain ⟨bE, jH, H⟩ := bo_ H
    obtain ⟨bD, jG, H⟩ := bo_ H
    obtain ⟨bC, jF, H⟩ := bo_ H
    obtain ⟨iH, H⟩ := ip_ H
    have iG : decide (5 < (aA.length : Int)) = true := decide_eq_true iH
    have iF : decide (5 < aA.length) = true := decide_eq_true (by omega)
    clear iH
    obtain ⟨iE, H⟩ := ip_ H
    have iD : decide (6 < (aA.length : Int)) = true := decide_eq_true iE
    have iC : decide (6 < aA.length) = true := decide_eq_true (by omega)
    clear iE
    obtain ⟨iB, H⟩ := ip_ H
    have iA : decide (7 < (aA.length : Int)) = true := decide_eq_true iB
    have hZ : decide (7 < aA.length) = true := decide_eq_true (by omega)
    clear iB
    obtain ⟨hY, H⟩ := id_ H
    obtain ⟨hX, H⟩ := id_ H
    obtain ⟨hW, H⟩ := id_ H
    obtain ⟨hV, H⟩ := ip_ H
    have hU : decide (0 < (aA.length : Int)) = true := decide_eq_true hV
    have hT : decide (0 < aA.length) = true := decide_eq_true (by omega)
    clear hV
    obtain ⟨bN, jE, H⟩ := bo_ H
    obtain ⟨bM, jD, H⟩ := bo_ H
    obtain ⟨bL, jC, H⟩ := bo_ H
    obtain ⟨hS, H⟩ := ip_ H
    have hR : decide (1 < (aA.length : Int)) = true := decide_eq_true hS
    have hQ : decide (1 < aA.length) = true := decide_eq_true (by omega)
    clear hS
    obtain ⟨hP, H⟩ := ip_ H
    have hO : decide (2 < (aA.length : Int)) = true := decide_eq_true hP
    have hN : decide (2 < aA.length) = true := decide_eq_true (by omega)
    clear hP
    obtain ⟨hM, H⟩ := ip_ H
    have hL : decide (3 < (aA.length : Int)) = true := decide_eq_true hM
    have hJ : decide (3 < aA.length) = true := decide_eq_true (by omega)
    clear hM
    obtain ⟨fA, bQ⟩ : ∃ y_ : List Int, y_ = (([Go.bits .and .i64 (wrap64 ((wrap64 ((wrap64 ((wrap64 ((wrap64 ((rd aA 7) + (Go.bits .xor .i64 (Go.bits .xor .i64 bE bD) bC))) + (Go.bits .xor .i64 (Go.bits .and .i64 (rd aA 4) (rd aA 5)) (Go.bits .and .i64 (Go.bits .xor .i64 4294967295 (rd aA 4)) (rd aA 6))))) + (rd l2 aG))) + (rd aI aG))) + (wrap64 ((Go.bits .xor .i64 (Go.bits .xor .i64 bN bM) bL) + (Go.bits .xor .i64 (Go.bits .xor .i64 (Go.bits .and .i64 (rd aA 0) (rd aA 1)) (Go.bits .and .i64 (rd aA 0) (rd aA 2))) (Go.bits .and .i64 (rd aA 1) (rd aA 2))))))) 4294967295, rd aA 0, rd aA 1, rd aA 2, Go.bits .and .i64 (wrap64 ((rd aA 3) + (wrap64 ((wrap64 ((wrap64 ((wrap64 ((rd aA 7) + (Go.bits .xor .i64 (Go.bits .xor .i64 bE bD) bC))) + (Go.bits .xor .i64 (Go.bits .and .i64 (rd aA 4) (rd aA 5)) (Go.bits .and .i64 (Go.bits .xor .i64 4294967295 (rd aA 4)) (rd aA 6))))) + (rd l2 aG))) + (rd aI aG))))) 4294967295, rd aA 4, rd aA 5, rd aA 6] : List Int)) := ⟨_, rfl⟩
    rw [← bQ] at H
    have bZ := Aside0.mk bQ
    clear bQ
    have H' := Aside0.mk H
    clear H
    obtain ⟨jB, bV, fK⟩ := Kd.R_slice aD.out
    subst fK
    have dM : 0 ≤ (4 : Int) := (by omega)
    have cU : 4 < (aA.length : Int) := od_
    obtain ⟨aC, gC, bK⟩ := Kd.at_int (Kd.R_reads' aD.out).2.2 4 dM cU
    cases gC
    (try simp only [show (4 : Int).toNat = 4 from rfl, Nat.reduceMul, Nat.reduceEqDiff, Go.Addr.add, ↓reduceIte] at bK)
    have gY : (4 < aA.length) = True := eq_true (by omega)
    (try rw [show ((4 : Int)).toNat = 4 from rfl] at bK)
    replace dM := eq_true dM
    replace cU := eq_true cU
    try go_wp2_with (first | ((with_reducible refine gate_callee (f := 87) rfl ?_); refine gl_ (some 32) Try.func87 #[.int .i64 (rd aA 4), .int .i64 6] rfl al_ ?_; (with_reducible refine (spec_l2Turn.calls (rd aA 4) 6 bE _ jH.out).mono ?_); rintro e w' ⟨rfl, ⟨nd, rfl⟩⟩; refine ⟨_, rfl, ?_⟩) | ((with_reducible refine gate_callee (f := 87) rfl ?_); refine gl_ (some 34) Try.func87 #[.int .i64 (rd aA 4), .int .i64 11] rfl al_ ?_; (with_reducible refine (spec_l2Turn.calls (rd aA 4) 11 bD _ jG.out).mono ?_); rintro e w' ⟨rfl, ⟨nd, rfl⟩⟩; refine ⟨_, rfl, ?_⟩) | ((with_reducible refine gate_callee (f := 87) rfl ?_); refine gl_ (some 37) Try.func87 #[.int .i64 (rd aA 4), .int .i64 25] rfl al_ ?_; (with_reducible refine (spec_l2Turn.calls (rd aA 4) 25 bC _ jF.out).mono ?_); rintro e w' ⟨rfl, ⟨nd, rfl⟩⟩; refine ⟨_, rfl, ?_⟩))
    (try (rw [drewN_self wr]; generalize hq_ : World.drewN wr _ = wr; have bY : Aside0 (Kd.R (Kd.int .i64) 3 wr w.heap.size (fun k_ => some k_ ≠ (.slice (some aC) aA.length bV : Value).ownBlock) bO aI) := ⟨by rw [← hq_]; exact (kr_ aH.out)⟩; have bX : Aside0 (Kd.R (Kd.int .i64) 3 wr w.heap.size (fun k_ => some k_ ≠ (bO : Value).ownBlock) (.slice (some aC) aA.length bV) aA) := ⟨by rw [← hq_]; exact (kr_ aD.out)⟩; have bW : Aside0 (Below w.heap.size w wr) := ⟨by rw [← hq_]; exact (be_ HB.out)⟩; clear aH aD HB hq_; have aH := bY; have aD := bX; have HB := bW; clear bY bX bW))
    replace aH := q_ (Kd.R_drew aH.out)
    replace aD := q_ (Kd.R_drew aD.out)
    replace HB := q_ (below_drew1 HB.out)
    have dL : 0 ≤ (5 : Int) := (by omega)
    have cT : 5 < (aA.length : Int) := od_
    obtain ⟨eR, gB, bB⟩ := Kd.at_int (Kd.R_reads' aD.out).2.2 5 dL cT
    obtain rfl : aC = eR := (by injection gB)
    (try simp only [show (5 : Int).toNat = 5 from rfl, Nat.reduceMul, Nat.reduceEqDiff, Go.Addr.add, ↓reduceIte] at bB)
    have gX : (5 < aA.length) = True := eq_true (by omega)
    (try rw [show ((5 : Int)).toNat = 5 from rfl] at bB)
    replace dL := eq_true dL
    replace cT := eq_true cT
    have dK : 0 ≤ (6 : Int) := (by omega)
    have cS : 6 < (aA.length : Int) := od_
    obtain ⟨eQ, gA, bA⟩ := Kd.at_int (Kd.R_reads' aD.out).2.2 6 dK cS
    obtain rfl : aC = eQ := (by injection gA)
    (try simp only [show (6 : Int).toNat = 6 from rfl, Nat.reduceMul, Nat.reduceEqDiff, Go.Addr.add, ↓reduceIte] at bA)
    have gW : (6 < aA.length) = True := eq_true (by omega)
    (try rw [show ((6 : Int)).toNat = 6 from rfl] at bA)
    replace dK := eq_true dK
    replace cS := eq_true cS
    refine sr_ (fun w' => w'.cell? ⟨aC.block, aC.off + 5, none⟩ = some (.int .i64 (rd aA 5)) ∧ w'.cell? ⟨aC.block, aC.off + 6, none⟩ = some (.int .i64 (rd aA 6))) [] spec_l2Block.tab8 spec_l2Block.bits8 ⟨bB, bA⟩ (fun hHeld HT_ HW_ => ?_)
    generalize wr.drew = iP at aH aD HB bB bA hHeld ⊢
    refine p_ 0 39 HT_ ?_; refine p_ 1 40 HT_ ?_; refine p_ 2 41 HT_ ?_; refine p_ 5 44 HT_ ?_; refine p_ 6 45 HT_ ?_; refine p_ 7 46 HT_ ?_; refine p_ 8 47 HT_ ?_; refine k_ 3 42 HT_ HW_ hHeld ?_; refine p_ 4 43 HT_ ?_; refine k_ 9 48 HT_ HW_ hHeld ?_; refine p_ 10 49 HT_ ?_; refine p_ 11 50 HT_ ?_; refine p_ 12 12 HT_ ?_
    refine done_ (done_of HT_.out (by kernel_rfl)) ?_
    try go_wp2
    replace aH := q_ (Kd.R_drew aH.out)
    replace aD := q_ (Kd.R_drew aD.out)
    replace HB := q_ (below_drew1 HB.out)
    have dJ : 0 ≤ (7 : Int) := (by omega)
    have cR : 7 < (aA.length : Int) := od_
    obtain ⟨eP, fZ, aZ⟩ := Kd.at_int (Kd.R_reads' aD.out).2.2 7 dJ cR
    obtain rfl : aC = eP := (by injection fZ)
    (try simp only [show (7 : Int).toNat = 7 from rfl, Nat.reduceMul, Nat.reduceEqDiff, Go.Addr.add, ↓reduceIte] at aZ)
    have gV : (7 < aA.length) = True := eq_true (by omega)
    (try rw [show ((7 : Int)).toNat = 7 from rfl] at aZ)
    replace dJ := eq_true dJ
    replace cR := eq_true cR
    have dI : 0 ≤ (aG : Int) := od_
    have cQ : aG < (l2.length : Int) := od_
    obtain ⟨eO, fY, aY⟩ := Kd.at_int iW.out aG dI cQ
    have bU := aY
    cases fY
    replace aY := hc_ HB.out aY
    replace dI := eq_true dI
    replace cQ := eq_true cQ
    obtain ⟨jA, eA, dZ⟩ := Kd.R_slice aH.out
    (first | subst dZ | (injection dZ with dW fJ dV; have fI := dW.symm; have fH := dV.symm; clear dW fJ dV; subst fI; subst fH))
    have dH : 0 ≤ (aG : Int) := od_
    have cP : aG < (aI.length : Int) := od_
    obtain ⟨bS, fX, bJ⟩ := Kd.at_int (Kd.R_reads' aH.out).2.2 aG dH cP
    cases fX
    replace dH := eq_true dH
    replace cP := eq_true cP
    refine sr_ (fun w' => w'.cell? ⟨aC.block, aC.off + 7, none⟩ = some (.int .i64 (rd aA 7)) ∧ w'.cell? (eO.add (aG).toNat) = some (.int .i64 (rd l2 aG)) ∧ w'.cell? (bS.add (aG).toNat) = some (.int .i64 (rd aI aG))) [] spec_l2Block.tab9 spec_l2Block.bits9 ⟨aZ, (hc_ HB.out bU), bJ⟩ (fun hHeld HT_ HW_ => ?_)
    generalize iP.drew = cC at aH aD HB aZ aY bJ hHeld ⊢
    refine p_ 0 51 HT_ ?_; refine p_ 1 52 HT_ ?_; refine p_ 3 54 HT_ ?_; refine p_ 5 56 HT_ ?_; refine p_ 7 58 HT_ ?_; refine p_ 8 59 HT_ ?_; refine p_ 9 60 HT_ ?_; refine p_ 12 63 HT_ ?_; refine p_ 13 64 HT_ ?_; refine p_ 14 65 HT_ ?_; refine k_ 2 53 HT_ HW_ hHeld ?_; refine p_ 4 55 HT_ ?_; refine p_ 6 57 HT_ ?_; refine k_ 10 61 HT_ HW_ hHeld ?_; refine p_ 11 62 HT_ ?_; refine k_ 15 66 HT_ HW_ hHeld ?_; refine p_ 16 67 HT_ ?_; refine p_ 17 13 HT_ ?_
    refine done_ (done_of HT_.out (by kernel_rfl)) ?_
    have dG : 0 ≤ (0 : Int) := (by omega)
    have cO : 0 < (aA.length : Int) := od_
    obtain ⟨eN, fW, bI⟩ := Kd.at_int (Kd.R_reads' aD.out).2.2 0 dG cO
    obtain rfl : aC = eN := (by injection fW)
    have gU : (0 < aA.length) = True := eq_true (by omega)
    (try rw [show ((0 : Int)).toNat = 0 from rfl] at bI)
    (try rw [Addr.add_zero'] at bI)
    replace dG := eq_true dG
    replace cO := eq_true cO
    try go_wp2_with (first | ((with_reducible refine gate_callee (f := 87) rfl ?_); refine gl_ (some 72) Try.func87 #[.int .i64 (rd aA 0), .int .i64 2] rfl al_ ?_; (with_reducible refine (spec_l2Turn.calls (rd aA 0) 2 bN _ jE.out).mono ?_); rintro e w' ⟨rfl, ⟨nd, rfl⟩⟩; refine ⟨_, rfl, ?_⟩) | ((with_reducible refine gate_callee (f := 87) rfl ?_); refine gl_ (some 74) Try.func87 #[.int .i64 (rd aA 0), .int .i64 13] rfl al_ ?_; (with_reducible refine (spec_l2Turn.calls (rd aA 0) 13 bM _ jD.out).mono ?_); rintro e w' ⟨rfl, ⟨nd, rfl⟩⟩; refine ⟨_, rfl, ?_⟩) | ((with_reducible refine gate_callee (f := 87) rfl ?_); refine gl_ (some 77) Try.func87 #[.int .i64 (rd aA 0), .int .i64 22] rfl al_ ?_; (with_reducible refine (spec_l2Turn.calls (rd aA 0) 22 bL _ jC.out).mono ?_); rintro e w' ⟨rfl, ⟨nd, rfl⟩⟩; refine ⟨_, rfl, ?_⟩))
    (try (rw [drewN_self cC]; generalize hq_ : World.drewN cC _ = cC; have bY : Aside0 (Kd.R (Kd.int .i64) 3 cC w.heap.size (fun k_ => some k_ ≠ (.slice (some aC) aA.length bV : Value).ownBlock) (.slice (some bS) aI.length eA) aI) := ⟨by rw [← hq_]; exact (kr_ aH.out)⟩; have bX : Aside0 (Kd.R (Kd.int .i64) 3 cC w.heap.size (fun k_ => some k_ ≠ (.slice (some bS) aI.length eA : Value).ownBlock) (.slice (some aC) aA.length bV) aA) := ⟨by rw [← hq_]; exact (kr_ aD.out)⟩; have bW : Aside0 (Below w.heap.size w cC) := ⟨by rw [← hq_]; exact (be_ HB.out)⟩; clear aH aD HB hq_; have aH := bY; have aD := bX; have HB := bW; clear bY bX bW))
    replace aH := q_ (Kd.R_drew aH.out)
    replace aD := q_ (Kd.R_drew aD.out)
    replace HB := q_ (below_drew1 HB.out)
    have dF : 0 ≤ (1 : Int) := (by omega)
    have cN : 1 < (aA.length : Int) := od_
    obtain ⟨eM, fV, aX⟩ := Kd.at_int (Kd.R_reads' aD.out).2.2 1 dF cN
    obtain rfl : aC = eM := (by injection fV)
    (try simp only [show (1 : Int).toNat = 1 from rfl, Nat.reduceMul, Nat.reduceEqDiff, Go.Addr.add, ↓reduceIte] at aX)
    have gT : (1 < aA.length) = True := eq_true (by omega)
    (try rw [show ((1 : Int)).toNat = 1 from rfl] at aX)
    replace dF := eq_true dF
    replace cN := eq_true cN
    have dE : 0 ≤ (2 : Int) := (by omega)
    have cM : 2 < (aA.length : Int) := od_
    obtain ⟨eL, fU, aW⟩ := Kd.at_int (Kd.R_reads' aD.out).2.2 2 dE cM
    obtain rfl : aC = eL := (by injection fU)
    (try simp only [show (2 : Int).toNat = 2 from rfl, Nat.reduceMul, Nat.reduceEqDiff, Go.Addr.add, ↓reduceIte] at aW)
    have gS : (2 < aA.length) = True := eq_true (by omega)
    (try rw [show ((2 : Int)).toNat = 2 from rfl] at aW)
    replace dE := eq_true dE
    replace cM := eq_true cM
    have dD : 0 ≤ (1 : Int) := (by omega)
    have cL : 1 < (aA.length : Int) := od_
    obtain ⟨eK, fT, aV⟩ := Kd.at_int (Kd.R_reads' aD.out).2.2 1 dD cL
    obtain rfl : aC = eK := (by injection fT)
    (try simp only [show (1 : Int).toNat = 1 from rfl, Nat.reduceMul, Nat.reduceEqDiff, Go.Addr.add, ↓reduceIte] at aV)
    have gR : (1 < aA.length) = True := eq_true (by omega)
    (try rw [show ((1 : Int)).toNat = 1 from rfl] at aV)
    replace dD := eq_true dD
    replace cL := eq_true cL
    have dC : 0 ≤ (2 : Int) := (by omega)
    have cK : 2 < (aA.length : Int) := od_
    obtain ⟨eJ, fS, aU⟩ := Kd.at_int (Kd.R_reads' aD.out).2.2 2 dC cK
    obtain rfl : aC = eJ := (by injection fS)
    (try simp only [show (2 : Int).toNat = 2 from rfl, Nat.reduceMul, Nat.reduceEqDiff, Go.Addr.add, ↓reduceIte] at aU)
    have gQ : (2 < aA.length) = True := eq_true (by omega)
    (try rw [show ((2 : Int)).toNat = 2 from rfl] at aU)
    replace dC := eq_true dC
    replace cK := eq_true cK
    refine sr_ (fun w' => w'.cell? ⟨aC.block, aC.off + 1, none⟩ = some (.int .i64 (rd aA 1)) ∧ w'.cell? ⟨aC.block, aC.off + 2, none⟩ = some (.int .i64 (rd aA 2)) ∧ w'.cell? ⟨aC.block, aC.off + 1, none⟩ = some (.int .i64 (rd aA 1)) ∧ w'.cell? ⟨aC.block, aC.off + 2, none⟩ = some (.int .i64 (rd aA 2))) [] spec_l2Block.tab12 spec_l2Block.bits12 ⟨aX, aW, aV, aU⟩ (fun hHeld HT_ HW_ => ?_)
    generalize cC.drew = iO at aH aD HB aX aW aV aU hHeld ⊢
    refine p_ 0 79 HT_ ?_; refine p_ 1 80 HT_ ?_; refine p_ 2 81 HT_ ?_; refine p_ 5 84 HT_ ?_; refine p_ 6 85 HT_ ?_; refine p_ 7 86 HT_ ?_; refine p_ 11 90 HT_ ?_; refine p_ 12 91 HT_ ?_; refine p_ 14 93 HT_ ?_; refine p_ 15 94 HT_ ?_; refine k_ 3 82 HT_ HW_ hHeld ?_; refine p_ 4 83 HT_ ?_; refine k_ 8 87 HT_ HW_ hHeld ?_; refine p_ 9 88 HT_ ?_; refine p_ 10 89 HT_ ?_; refine k_ 13 92 HT_ HW_ hHeld ?_; refine k_ 16 95 HT_ HW_ hHeld ?_; refine p_ 17 96 HT_ ?_; refine p_ 18 97 HT_ ?_; refine p_ 19 16 HT_ ?_
    refine done_ (done_of HT_.out (by kernel_rfl)) ?_
    try go_wp2
    replace aH := q_ (Kd.R_drew aH.out)
    replace aD := q_ (Kd.R_drew aD.out)
    replace HB := q_ (below_drew1 HB.out)
    have dB : 0 ≤ (1 : Int) := (by omega)
    have cJ : 1 < (aA.length : Int) := od_
    obtain ⟨eI, fR, aT⟩ := Kd.at_int (Kd.R_reads' aD.out).2.2 1 dB cJ
    obtain rfl : aC = eI := (by injection fR)
    (try simp only [show (1 : Int).toNat = 1 from rfl, Nat.reduceMul, Nat.reduceEqDiff, Go.Addr.add, ↓reduceIte] at aT)
    have gP : (1 < aA.length) = True := eq_true (by omega)
    (try rw [show ((1 : Int)).toNat = 1 from rfl] at aT)
    replace dB := eq_true dB
    replace cJ := eq_true cJ
    have dA : 0 ≤ (2 : Int) := (by omega)
    have cI : 2 < (aA.length : Int) := od_
    obtain ⟨eH, fQ, aQ⟩ := Kd.at_int (Kd.R_reads' aD.out).2.2 2 dA cI
    obtain rfl : aC = eH := (by injection fQ)
    (try simp only [show (2 : Int).toNat = 2 from rfl, Nat.reduceMul, Nat.reduceEqDiff, Go.Addr.add, ↓reduceIte] at aQ)
    have gO : (2 < aA.length) = True := eq_true (by omega)
    (try rw [show ((2 : Int)).toNat = 2 from rfl] at aQ)
    replace dA := eq_true dA
    replace cI := eq_true cI
    have cZ : 0 ≤ (3 : Int) := (by omega)
    have cH : 3 < (aA.length : Int) := od_
    obtain ⟨eG, fP, aP⟩ := Kd.at_int (Kd.R_reads' aD.out).2.2 3 cZ cH
    obtain rfl : aC = eG := (by injection fP)
    (try simp only [show (3 : Int).toNat = 3 from rfl, Nat.reduceMul, Nat.reduceEqDiff, Go.Addr.add, ↓reduceIte] at aP)
    have gN : (3 < aA.length) = True := eq_true (by omega)
    (try rw [show ((3 : Int)).toNat = 3 from rfl] at aP)
    replace cZ := eq_true cZ
    replace cH := eq_true cH
    have cY : 0 ≤ (5 : Int) := (by omega)
    have cG : 5 < (aA.length : Int) := od_
    obtain ⟨eF, fO, aN⟩ := Kd.at_int (Kd.R_reads' aD.out).2.2 5 cY cG
    obtain rfl : aC = eF := (by injection fO)
    (try simp only [show (5 : Int).toNat = 5 from rfl, Nat.reduceMul, Nat.reduceEqDiff, Go.Addr.add, ↓reduceIte] at aN)
    have gM : (5 < aA.length) = True := eq_true (by omega)
    (try rw [show ((5 : Int)).toNat = 5 from rfl] at aN)
    replace cY := eq_true cY
    replace cG := eq_true cG
    have cX : 0 ≤ (6 : Int) := (by omega)
    have cF : 6 < (aA.length : Int) := od_
    obtain ⟨eE, fN, aM⟩ := Kd.at_int (Kd.R_reads' aD.out).2.2 6 cX cF
    obtain rfl : aC = eE := (by injection fN)
    (try simp only [show (6 : Int).toNat = 6 from rfl, Nat.reduceMul, Nat.reduceEqDiff, Go.Addr.add, ↓reduceIte] at aM)
    have gL : (6 < aA.length) = True := eq_true (by omega)
    (try rw [show ((6 : Int)).toNat = 6 from rfl] at aM)
    replace cX := eq_true cX
    replace cF := eq_true cF
    refine sr_ (fun w' => w'.cell? ⟨aC.block, aC.off + 1, none⟩ = some (.int .i64 (rd aA 1)) ∧ w'.cell? ⟨aC.block, aC.off + 2, none⟩ = some (.int .i64 (rd aA 2)) ∧ w'.cell? ⟨aC.block, aC.off + 3, none⟩ = some (.int .i64 (rd aA 3)) ∧ w'.cell? ⟨aC.block, aC.off + 5, none⟩ = some (.int .i64 (rd aA 5)) ∧ w'.cell? ⟨aC.block, aC.off + 6, none⟩ = some (.int .i64 (rd aA 6))) [] spec_l2Block.tab14 spec_l2Block.bits14 ⟨aT, aQ, aP, aN, aM⟩ (fun hHeld HT_ HW_ => ?_)
    generalize iO.drew = jK at aH aD HB aT aQ aP aN aM hHeld ⊢
    refine p_ 0 101 HT_ ?_; refine p_ 1 102 HT_ ?_; refine p_ 2 103 HT_ ?_; refine p_ 3 104 HT_ ?_; refine p_ 4 105 HT_ ?_; refine p_ 5 106 HT_ ?_; refine p_ 6 107 HT_ ?_; refine p_ 8 109 HT_ ?_; refine p_ 9 110 HT_ ?_; refine p_ 11 112 HT_ ?_; refine p_ 12 113 HT_ ?_; refine p_ 14 115 HT_ ?_; refine p_ 17 118 HT_ ?_; refine p_ 18 119 HT_ ?_; refine p_ 19 120 HT_ ?_; refine p_ 21 122 HT_ ?_; refine p_ 22 123 HT_ ?_; refine k_ 7 108 HT_ HW_ hHeld ?_; refine k_ 10 111 HT_ HW_ hHeld ?_; refine k_ 13 114 HT_ HW_ hHeld ?_; refine p_ 15 116 HT_ ?_; refine p_ 16 117 HT_ ?_; refine k_ 20 121 HT_ HW_ hHeld ?_; refine k_ 23 124 HT_ HW_ hHeld ?_
    refine on_ 24 (some 125) (bq_ 25 1) HT_ (fun K hK => ?_)
    refine Kd.R_lit_step (Kd.int .i64) _ 3 ?hg (N := 125) ?hd (xs := ([Go.bits .and .i64 (wrap64 ((wrap64 ((wrap64 ((wrap64 ((wrap64 ((rd aA 7) + (Go.bits .xor .i64 (Go.bits .xor .i64 bE bD) bC))) + (Go.bits .xor .i64 (Go.bits .and .i64 (rd aA 4) (rd aA 5)) (Go.bits .and .i64 (Go.bits .xor .i64 4294967295 (rd aA 4)) (rd aA 6))))) + (rd l2 aG))) + (rd aI aG))) + (wrap64 ((Go.bits .xor .i64 (Go.bits .xor .i64 bN bM) bL) + (Go.bits .xor .i64 (Go.bits .xor .i64 (Go.bits .and .i64 (rd aA 0) (rd aA 1)) (Go.bits .and .i64 (rd aA 0) (rd aA 2))) (Go.bits .and .i64 (rd aA 1) (rd aA 2))))))) 4294967295, rd aA 0, rd aA 1, rd aA 2, Go.bits .and .i64 (wrap64 ((rd aA 3) + (wrap64 ((wrap64 ((wrap64 ((wrap64 ((rd aA 7) + (Go.bits .xor .i64 (Go.bits .xor .i64 bE bD) bC))) + (Go.bits .xor .i64 (Go.bits .and .i64 (rd aA 4) (rd aA 5)) (Go.bits .and .i64 (Go.bits .xor .i64 4294967295 (rd aA 4)) (rd aA 6))))) + (rd l2 aG))) + (rd aI aG))))) 4294967295, rd aA 4, rd aA 5, rd aA 6] : List Int)) (inner := [.int .i64 (Go.bits .and .i64 (wrap64 ((wrap64 ((wrap64 ((wrap64 ((wrap64 ((rd aA 7) + (Go.bits .xor .i64 (Go.bits .xor .i64 bE bD) bC))) + (Go.bits .xor .i64 (Go.bits .and .i64 (rd aA 4) (rd aA 5)) (Go.bits .and .i64 (Go.bits .xor .i64 4294967295 (rd aA 4)) (rd aA 6))))) + (rd l2 aG))) + (rd aI aG))) + (wrap64 ((Go.bits .xor .i64 (Go.bits .xor .i64 bN bM) bL) + (Go.bits .xor .i64 (Go.bits .xor .i64 (Go.bits .and .i64 (rd aA 0) (rd aA 1)) (Go.bits .and .i64 (rd aA 0) (rd aA 2))) (Go.bits .and .i64 (rd aA 1) (rd aA 2))))))) 4294967295), .int .i64 (rd aA 0), .int .i64 (rd aA 1), .int .i64 (rd aA 2), .int .i64 (Go.bits .and .i64 (wrap64 ((rd aA 3) + (wrap64 ((wrap64 ((wrap64 ((wrap64 ((rd aA 7) + (Go.bits .xor .i64 (Go.bits .xor .i64 bE bD) bC))) + (Go.bits .xor .i64 (Go.bits .and .i64 (rd aA 4) (rd aA 5)) (Go.bits .and .i64 (Go.bits .xor .i64 4294967295 (rd aA 4)) (rd aA 6))))) + (rd l2 aG))) + (rd aI aG))))) 4294967295), .int .i64 (rd aA 4), .int .i64 (rd aA 5), .int .i64 (rd aA 6)]) (ok := fun _ => True) (okp := fun _ => True) ?hr ?hp (fun _ hk => hk) trivial (Below.refl _ _) (Nat.le_refl _) (by simp) ?_; (case hd => rfl); (case hg => rfl); (case hr => first | (go_simp; done) | (go_simp; rfl)); (case hp => exact (Reps.one (show Kd.M (Kd.int .i64) _ _ _ (Go.bits .and .i64 (wrap64 ((wrap64 ((wrap64 ((wrap64 ((wrap64 ((rd aA 7) + (Go.bits .xor .i64 (Go.bits .xor .i64 bE bD) bC))) + (Go.bits .xor .i64 (Go.bits .and .i64 (rd aA 4) (rd aA 5)) (Go.bits .and .i64 (Go.bits .xor .i64 4294967295 (rd aA 4)) (rd aA 6))))) + (rd l2 aG))) + (rd aI aG))) + (wrap64 ((Go.bits .xor .i64 (Go.bits .xor .i64 bN bM) bL) + (Go.bits .xor .i64 (Go.bits .xor .i64 (Go.bits .and .i64 (rd aA 0) (rd aA 1)) (Go.bits .and .i64 (rd aA 0) (rd aA 2))) (Go.bits .and .i64 (rd aA 1) (rd aA 2))))))) 4294967295) [.int .i64 (Go.bits .and .i64 (wrap64 ((wrap64 ((wrap64 ((wrap64 ((wrap64 ((rd aA 7) + (Go.bits .xor .i64 (Go.bits .xor .i64 bE bD) bC))) + (Go.bits .xor .i64 (Go.bits .and .i64 (rd aA 4) (rd aA 5)) (Go.bits .and .i64 (Go.bits .xor .i64 4294967295 (rd aA 4)) (rd aA 6))))) + (rd l2 aG))) + (rd aI aG))) + (wrap64 ((Go.bits .xor .i64 (Go.bits .xor .i64 bN bM) bL) + (Go.bits .xor .i64 (Go.bits .xor .i64 (Go.bits .and .i64 (rd aA 0) (rd aA 1)) (Go.bits .and .i64 (rd aA 0) (rd aA 2))) (Go.bits .and .i64 (rd aA 1) (rd aA 2))))))) 4294967295)] from rfl) (Reps.one (show Kd.M (Kd.int .i64) _ _ _ (rd aA 0) [.int .i64 (rd aA 0)] from rfl) (Reps.one (show Kd.M (Kd.int .i64) _ _ _ (rd aA 1) [.int .i64 (rd aA 1)] from rfl) (Reps.one (show Kd.M (Kd.int .i64) _ _ _ (rd aA 2) [.int .i64 (rd aA 2)] from rfl) (Reps.one (show Kd.M (Kd.int .i64) _ _ _ (Go.bits .and .i64 (wrap64 ((rd aA 3) + (wrap64 ((wrap64 ((wrap64 ((wrap64 ((rd aA 7) + (Go.bits .xor .i64 (Go.bits .xor .i64 bE bD) bC))) + (Go.bits .xor .i64 (Go.bits .and .i64 (rd aA 4) (rd aA 5)) (Go.bits .and .i64 (Go.bits .xor .i64 4294967295 (rd aA 4)) (rd aA 6))))) + (rd l2 aG))) + (rd aI aG))))) 4294967295) [.int .i64 (Go.bits .and .i64 (wrap64 ((rd aA 3) + (wrap64 ((wrap64 ((wrap64 ((wrap64 ((rd aA 7) + (Go.bits .xor .i64 (Go.bits .xor .i64 bE bD) bC))) + (Go.bits .xor .i64 (Go.bits .and .i64 (rd aA 4) (rd aA 5)) (Go.bits .and .i64 (Go.bits .xor .i64 4294967295 (rd aA 4)) (rd aA 6))))) + (rd l2 aG))) + (rd aI aG))))) 4294967295)] from rfl) (Reps.one (show Kd.M (Kd.int .i64) _ _ _ (rd aA 4) [.int .i64 (rd aA 4)] from rfl) (Reps.one (show Kd.M (Kd.int .i64) _ _ _ (rd aA 5) [.int .i64 (rd aA 5)] from rfl) (Reps.one (show Kd.M (Kd.int .i64) _ _ _ (rd aA 6) [.int .i64 (rd aA 6)] from rfl) (Reps.none _ _))))))))))
    intro iQ jJ bH hb hg_ hnew_
    have gI := (hb.cell (World.block_lt_of_cell? _ _ (hHeld.1))).trans (hHeld.1)
    have gH := (hb.cell (World.block_lt_of_cell? _ _ (hHeld.2.1))).trans (hHeld.2.1)
    have gG := (hb.cell (World.block_lt_of_cell? _ _ (hHeld.2.2.1))).trans (hHeld.2.2.1)
    have gF := (hb.cell (World.block_lt_of_cell? _ _ (hHeld.2.2.2.1))).trans (hHeld.2.2.2.1)
    have gE := (hb.cell (World.block_lt_of_cell? _ _ (hHeld.2.2.2.2))).trans (hHeld.2.2.2.2)
    clear hg_ hnew_
    (first | rw [← bZ.out] at bH | (simp only [Int.reduceToNat] at bH; rw [← bZ.out] at bH))
    have eV := q_ (Kd.R_lower (Kd.R_new' (Kd.R_new' bH (Kd.R_lt (kr_ aH.out))) (Kd.R_lt (kr_ aD.out))) (below_size (be_ HB.out)))
    replace aH := q_ (Kd.R_elder' (kr_ aH.out) (Kd.R_base bH) hb)
    replace aD := q_ (Kd.R_elder' (kr_ aD.out) (Kd.R_base bH) hb)
    replace HB := q_ (below_step (be_ HB.out) hb)
    clear hb bH
    refine hK.out _ _ ⟨gI, gH, gG, gF, gE⟩ (fun hHeld => ?_)
    clear hK K
    refine nm_ ?_
    refine p_ 25 8 HT_ ?_
    refine done_ (done_of HT_.out (by kernel_rfl)) ?_
    try go_wp2
    go_roundg k1
    case measure => have := eY.out; omega
    case rel => exact ⟨(fA), (wrap64 (aG + 1)), rs_, H', ⟨by have := eY.out; omega⟩, ⟨by (with_reducible repeat (first | apply Kd.R_alloc | apply Kd.R_drewN | apply Kd.R_drew)); exact Kd.R_mono aH.out (fun _ hk => hk.2)⟩, ⟨by (with_reducible repeat (first | apply Kd.R_alloc | apply Kd.R_drewN | apply Kd.R_drew)); exact Kd.R_mono eV.out (fun _ hk => hk.1.2)⟩, ⟨be_ HB.out⟩⟩
   ·
    rw [if_neg dS] at H
    have eC := decide_eq_false dS
    clear dS
    have H' := Aside0.mk H
    clear H
    go_wp2
    go_loopg [18] k1 (fun kq iS w' => ∃ (bF : List Int) (aE : Int), iS = .int .i64 aE ∧ Aside0 (spec_l2Block.l1 kq l0 bF aE = some r) ∧ Aside0 (kq ≤ k1) ∧ Aside0 (Kd.R (Kd.int .i64) 3 w' w.heap.size (fun _ => True) u8 bF) ∧ Aside0 (Below w.heap.size w w'))
    case atStart => exact ⟨(aA), (0), rs_, H', ⟨Nat.le_refl _⟩, ⟨by (with_reducible repeat (first | apply Kd.R_alloc | apply Kd.R_drewN | apply Kd.R_drew)); exact Kd.R_mono aD.out (fun _ hk => trivial)⟩, ⟨be_ HB.out⟩⟩
    case round =>
     clear H'
     obtain ⟨bF, aE, rfl, HA, iN, aD, HB⟩ := hrel
     cases gk with
     | zero => exact absurd HA.out (by simp [spec_l2Block.l1])
     | succ k2 =>
      have H := HA.out
      clear HA
      simp only [spec_l2Block.l1] at H
      by_cases dR : aE < 8
      ·
       rw [if_pos dR] at H
       have eB := decide_eq_true dR
       clear dR
       obtain ⟨hI, H⟩ := id_ H
       obtain ⟨hH, H⟩ := id_ H
       obtain ⟨hG, H⟩ := id_ H
       obtain ⟨eZ, bP⟩ : ∃ y_ : List Int, y_ = (bF.set (aE : Int).toNat (Go.bits .and .i64 (wrap64 ((rd bF aE) + (rd l0 aE))) 4294967295)) := ⟨_, rfl⟩
       rw [← bP] at H
       have eS := Aside0.mk bP
       clear bP
       have H' := Aside0.mk H
       clear H
       try go_wp2
       replace aD := q_ (Kd.R_drew aD.out)
       replace HB := q_ (below_drew1 HB.out)
       obtain ⟨iZ, iT, dX⟩ := Kd.R_slice aD.out
       (first | subst dX | (injection dX with dW fJ dV; have fI := dW.symm; have fH := dV.symm; clear dW fJ dV; subst fI; subst fH))
       have cW : 0 ≤ (aE : Int) := od_
       have cE : aE < (bF.length : Int) := od_
       obtain ⟨iL, fM, bG⟩ := Kd.at_int (Kd.R_reads' aD.out).2.2 aE cW cE
       cases fM
       replace cW := eq_true cW
       replace cE := eq_true cE
       have cV : 0 ≤ (aE : Int) := od_
       have cD : aE < (l0.length : Int) := od_
       obtain ⟨eD, fL, aK⟩ := Kd.at_int iM.out aE cV cD
       have bT := aK
       cases fL
       replace aK := hc_ HB.out aK
       replace cV := eq_true cV
       replace cD := eq_true cD
       have fE : 0 ≤ (aE : Int) := od_
       have fD : (aE : Int) < ((bF.length : Int) : Int) := od_
       obtain ⟨fF, iU, dY, dU, fG, iV, eX⟩ := Kd.R_form aD.out (by omega)
       (first | cases dY | (injection dY with ea_ en_ ec_; (first | subst ea_ | (injection ea_ with ea_; subst ea_)); subst ec_; clear en_))
       have gK := Aside0.mk dU
       have gJ := Aside0.mk eX
       clear dU fG eX
       (first | simp only [add_plain] at bG | skip)
       obtain ⟨dN, dO⟩ := Kd.R_celln 0 aD.out (aE : Int) fE fD
       replace fE := eq_true fE
       replace fD := eq_true fD
       have dP := Kd.R_putn aD.out (aE : Int) (Go.bits .and .i64 (wrap64 ((rd bF aE) + (rd l0 aE))) 4294967295)
       rw [← eS.out] at dP
       have eU := Aside0.mk dP
       clear dP
       refine sr_ (fun w' => w'.cell? ⟨fF, (aE).toNat, none⟩ = some (.int .i64 (rd bF aE)) ∧ w'.cell? (eD.add (aE).toNat) = some (.int .i64 (rd l0 aE))) [13] spec_l2Block.tab18 spec_l2Block.bits18 ⟨bG, (hc_ HB.out bT)⟩ (fun hHeld HT_ HW_ => ?_)
       generalize wr.drew = jI at aD HB gJ eU dO bG aK dN hHeld ⊢
       refine p_ 0 130 HT_ ?_; refine p_ 1 131 HT_ ?_; refine p_ 2 132 HT_ ?_; refine p_ 3 133 HT_ ?_; refine p_ 4 134 HT_ ?_; refine p_ 6 136 HT_ ?_; refine p_ 7 137 HT_ ?_; refine p_ 8 138 HT_ ?_; refine k_ 5 135 HT_ HW_ hHeld ?_; refine k_ 9 139 HT_ HW_ hHeld ?_; refine p_ 10 140 HT_ ?_; refine p_ 11 141 HT_ ?_; refine p_ 12 142 HT_ ?_
       refine last_ (i := 13) (N := none) (bq_ 14 0) rfl rfl (one_of HT_.out (by kernel_rfl)) (by decide) (fun K hK => ?_)
       refine skip_ (w1 := ?_) (by rfl) rfl ?_ ?_
       rotate_left
       · go_simp
         rfl
       refine hK.out _ _ ?_
       clear hK K
       refine done_ (done_of HT_.out (by kernel_rfl)) ?_
       try go_wp2
       go_roundg k2
       case measure => have := eY.out; have := iN.out; omega
       case rel => exact ⟨(eZ), (wrap64 (aE + 1)), rs_, H', ⟨by have := eY.out; have := iN.out; omega⟩, ⟨kr_ eU.out⟩, ⟨bs_ HB.out gK.out⟩⟩
      · rw [if_neg dR] at H
        have eB := decide_eq_false dR
        clear dR
        obtain rfl := Option.some.inj H
        go_wp2
        go_ret
        exact ⟨_, rf_, kr_ aD.out, be_ HB.out⟩
end Go.Proofs.Ytgmfhchhbidlnaa.P
