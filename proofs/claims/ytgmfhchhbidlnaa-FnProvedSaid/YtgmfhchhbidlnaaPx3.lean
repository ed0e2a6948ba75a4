import Derived.Test.YtgmfhchhbidlnaaStr
import Derived.Test.YtgmfhchhbidlnaaPx0
import Derived.Test.YtgmfhchhbidlnaaPx1
namespace Go.Proofs.Ytgmfhchhbidlnaa.P
open Go.RowKit Go.Proofs.YtgmfhchhbidlnaaW.PrintWords Go.Proofs.YtgmfhchhbidlnaaW.PrintLast Go.Proofs.YtgmfhchhbidlnaaW.PrintMore
attribute [local go_sem] max2_int min2_int max_two min_two max_three min_three max_four min_four
set_option linter.unusedVariables false
set_option maxHeartbeats 8000000
set_option maxRecDepth 100000
set_option linter.unusedSimpArgs false
def spec_PairsOk.l0 : Nat → List (S45) → Int → Option (Bool)
 | 0, _, _ => none
 | k + 1, x0, x3 => if x3 < (x0.length : Int) then (if 0 ≤ x3 then ((spec_PairOk.f k ((rd_T45 x0 x3).f0) ((rd_T45 x0 x3).f1)).bind fun aA => (if aA = true then (if x3 > 0 then (if 0 ≤ (wrap64 (x3 - 1)) then (if (wrap64 (x3 - 1)) < (x0.length : Int) then (if ((Op.bytesLess (((rd_T45 x0 (wrap64 (x3 - 1))).f0).toList) (((rd_T45 x0 x3).f0).toList)) = true) then (spec_PairsOk.l0 k x0 (wrap64 (x3 + 1))) else (some false)) else (none)) else (none)) else (spec_PairsOk.l0 k x0 (wrap64 (x3 + 1)))) else (some false))) else (none)) else (some (decide ((x0.length : Int) ≤ 60)))
def spec_PairsOk.f (k : Nat) (l0 : List (S45)) : Option (Bool) := spec_PairsOk.l0 k l0 0
def spec_PairsOk.T4 : Bool × List (List Nat × List Nat) := (true, [([], []), ([], []), ([0, 1], [0, 1]), ([2], [2]), ([3], [3]), ([4], [4]), ([5, 4], [5]), ([6], [6]), ([7, 6], [6, 7]), ([8, 6, 6], [6, 8]), ([9], [9]), ([9], [9]), ([11, 9], [9, 11]), ([10, 12, 9], [9, 10, 12]), ([13, 9], [9, 13]), ([14, 9], [9, 14]), ([9], [9]), ([9], [9]), ([16, 17, 9], [9, 16, 17]), ([18, 9], [9, 18]), ([19, 9], [9, 19]), ([15, 20, 9], [9, 15, 20]), ([9, 21, 6], [6, 9, 21]), ([6, 22], [6, 22])])
def spec_PairsOk.B4 : List Nat := [0, 0, 3, 7, 15, 31, 63, 127, 255, 511, 1023, 1023, 3071, 8191, 16383, 32767, 1023, 1023, 197631, 459775, 984063, 2097151, 4194303, 8388607]
theorem spec_PairsOk.tab4 : rtab .any (opsOf Try.f41 4) = spec_PairsOk.T4 := by kernel_rfl
theorem spec_PairsOk.bits4 : waitsOk spec_PairsOk.T4.2 spec_PairsOk.B4 = true := by kernel_rfl
theorem spec_PairsOk.calls (k : Nat) (A0 : Option Addr) (c0 : Nat) (l0 : List (S45)) (r : Bool) (w : World) (bI : Kd.C k45 w A0 l0.length l0) (bK : l0.length ≤ c0) (h : spec_PairsOk.f k l0 = some r) :
 Calls Try.prog 41 #[.slice A0 l0.length c0] w fun e w' => e = .returned (.bool r) ∧ Below w.heap.size w w' := by
 have bM := Try.underlying45
 have bH := Aside0.mk bI
 have bV := Aside0.mk bK
 clear bI bK
 have HB := q_ (Below.refl w.heap.size w)
 have H := h
 clear h
 unfold spec_PairsOk.f at H
 have H' := Aside0.mk H
 clear H
 go_enter Try.func41, Try.ntmps41
 go_wp2
 go_loopg [3] k (fun kq v3 w' => ∃ (aA : Int), v3 = .int .i64 aA ∧ Aside0 (spec_PairsOk.l0 kq l0 aA = some r) ∧ Aside0 (kq ≤ k) ∧ Aside0 (Below w.heap.size w w'))
 case atStart => exact ⟨(0), rs_, H', ⟨Nat.le_refl _⟩, ⟨be_ HB.out⟩⟩
 case round =>
  clear H'
  obtain ⟨aA, rfl, HA, bB, HB⟩ := hrel
  cases gk with
  | zero => exact absurd HA.out (by simp [spec_PairsOk.l0])
  | succ k1 =>
   have H := HA.out
   clear HA
   simp only [spec_PairsOk.l0] at H
   by_cases c2 : aA < (l0.length : Int)
   ·
    rw [if_pos c2] at H
    have bG := decide_eq_true c2
    clear c2
    obtain ⟨bP, H⟩ := id_ H
    obtain ⟨bC, A4, H⟩ := bo_ H
    have HZ := Aside0.mk H
    clear H
    try go_wp2
    replace HB := q_ (below_drew1 HB.out)
    have aW : 0 ≤ (aA : Int) := od_
    have aT : aA < (l0.length : Int) := od_
    obtain ⟨aB, bF, aD, aC⟩ := at_T45 bH.out aA aW aT
    have aE := aC
    have aF := aD
    cases bF
    replace aD := hc_ HB.out aD
    replace aC := hc_ HB.out aC
    replace aW := eq_true aW
    replace aT := eq_true aT
    by_cases c5 : bC = true
    rotate_left
    ·
     have H := HZ.out
     try clear HZ
     replace c5 := Bool.eq_false_iff.mpr c5
     subst c5
     rw [if_neg (show ¬ (false = true) by decide)] at H
     obtain rfl := Option.some.inj H
     refine sr_ (fun w' => w'.cell? (aB.add ((aA).toNat * 2)) = some (.string ((rd_T45 l0 aA).f0)) ∧ w'.cell? ⟨(aB.add ((aA).toNat * 2)).block, (aB.add ((aA).toNat * 2)).off + 1, none⟩ = some (.string ((rd_T45 l0 aA).f1))) [] spec_PairsOk.tab4 spec_PairsOk.bits4 ⟨(hc_ HB.out aF), (hc_ HB.out aE)⟩ (fun hD hT hW => ?_)
     generalize wr.drew = bR at HB aD aC hD ⊢
     refine p_ 0 10 hT ?_; refine p_ 1 11 hT ?_; refine p_ 2 12 hT ?_; refine k_ 3 13 hT hW hD ?_
     refine oc_ 4 14 (bq_ 5 19) hT Try.func54 #[.agg #[.string ((rd_T45 l0 aA).f0), .string ((rd_T45 l0 aA).f1)]] ?_
     with_reducible refine (spec_PairOk.calls k1 ((rd_T45 l0 aA).f0) ((rd_T45 l0 aA).f1) false _ A4.out).mono ?_
     rintro e bQ ⟨rfl, hb⟩
     refine ⟨_, rfl, ?_⟩
     replace HB := q_ (below_step (be_ HB.out) hb)
     (try clear hb)
     (try clear bL)
     (try clear hk)
     (try clear hi)
     refine ⟨⟨(hc_ HB.out aF), (hc_ HB.out aE)⟩, fun hD => nm_ ?_⟩
     refine p_ 5 15 hT ?_; refine p_ 6 16 hT ?_; refine u_ 7 17 hT ?_; refine u_ 8 18 hT ?_; refine u_ 9 19 hT ?_; refine u_ 10 20 hT ?_; refine u_ 11 21 hT ?_; refine u_ 12 22 hT ?_; refine u_ 13 23 hT ?_; refine u_ 14 24 hT ?_; refine u_ 15 25 hT ?_; refine u_ 16 26 hT ?_; refine u_ 17 27 hT ?_; refine u_ 18 28 hT ?_; refine u_ 19 29 hT ?_; refine u_ 20 30 hT ?_; refine u_ 21 31 hT ?_; refine u_ 22 32 hT ?_; refine p_ 23 33 hT ?_
     refine done_ (done_of hT.out (by kernel_rfl)) ?_
     try go_wp2
     go_ret
     exact ⟨rf_, be_ HB.out⟩
    have H := HZ.out
    try clear HZ
    subst c5
    rw [if_pos rfl] at H
    have HZ := Aside0.mk H
    clear H
    by_cases c6 : aA > 0
    rotate_left
    ·
     have H := HZ.out
     try clear HZ
     rw [if_neg c6] at H
     have aX : decide (0 < aA) = false := decide_eq_false c6
     clear c6
     have H' := Aside0.mk H
     clear H
     first | rw [aX] | skip
     refine sr_ (fun w' => w'.cell? (aB.add ((aA).toNat * 2)) = some (.string ((rd_T45 l0 aA).f0)) ∧ w'.cell? ⟨(aB.add ((aA).toNat * 2)).block, (aB.add ((aA).toNat * 2)).off + 1, none⟩ = some (.string ((rd_T45 l0 aA).f1))) [] spec_PairsOk.tab4 spec_PairsOk.bits4 ⟨(hc_ HB.out aF), (hc_ HB.out aE)⟩ (fun hD hT hW => ?_)
     generalize wr.drew = bS at HB aD aC hD ⊢
     refine p_ 0 10 hT ?_; refine p_ 1 11 hT ?_; refine p_ 2 12 hT ?_; refine k_ 3 13 hT hW hD ?_
     refine oc_ 4 14 (bq_ 5 19) hT Try.func54 #[.agg #[.string ((rd_T45 l0 aA).f0), .string ((rd_T45 l0 aA).f1)]] ?_
     with_reducible refine (spec_PairOk.calls k1 ((rd_T45 l0 aA).f0) ((rd_T45 l0 aA).f1) true _ A4.out).mono ?_
     rintro e w16 ⟨rfl, hb⟩
     refine ⟨_, rfl, ?_⟩
     replace HB := q_ (below_step (be_ HB.out) hb)
     (try clear hb)
     (try clear bL)
     (try clear hk)
     (try clear hi)
     refine ⟨⟨(hc_ HB.out aF), (hc_ HB.out aE)⟩, fun hD => nm_ ?_⟩
     refine p_ 5 15 hT ?_; refine p_ 6 16 hT ?_; refine p_ 7 17 hT ?_; refine p_ 8 18 hT ?_; refine p_ 9 19 hT ?_; refine u_ 10 20 hT ?_; refine u_ 11 21 hT ?_; refine u_ 12 22 hT ?_; refine u_ 13 23 hT ?_; refine u_ 14 24 hT ?_; refine u_ 15 25 hT ?_; refine u_ 16 26 hT ?_; refine u_ 17 27 hT ?_; refine u_ 18 28 hT ?_; refine u_ 19 29 hT ?_; refine u_ 20 30 hT ?_; refine u_ 21 31 hT ?_; refine p_ 22 32 hT ?_; refine p_ 23 33 hT ?_
     refine done_ (done_of hT.out (by kernel_rfl)) ?_
     try go_wp2
     go_roundg k1
     case measure => have := bB.out; omega
     case rel => exact ⟨(wrap64 (aA + 1)), rs_, H', ⟨by have := bB.out; omega⟩, ⟨be_ HB.out⟩⟩
    have H := HZ.out
    try clear HZ
    rw [if_pos c6] at H
    have aX : decide (0 < aA) = true := decide_eq_true c6
    clear c6
    obtain ⟨aO, aP⟩ : ∃ j_ : Int, (wrap64 (aA - 1)) = j_ := ⟨_, rfl⟩
    first | rw [aP] at H | simp only [aP] at H
    (try rw [aP] at A4)
    have bJ : (IntKind.i64.wrap (aA - 1)) = aO := (i64_w _).trans aP
    obtain ⟨bO, H⟩ := id_ H
    obtain ⟨bN, H⟩ := id_ H
    have HZ := Aside0.mk H
    clear H
    first | rw [aX] | skip
    have aV : 0 ≤ ((aO) : Int) := od_
    have aS : (aO) < (l0.length : Int) := od_
    obtain ⟨bA, bE, aJ, aI⟩ := at_T45 bH.out (aO) aV aS
    have aM := aI
    have aN := aJ
    obtain rfl : aB = bA := (by injection bE)
    replace aJ := hc_ HB.out aJ
    replace aI := hc_ HB.out aI
    replace aV := eq_true aV
    replace aS := eq_true aS
    have aU : 0 ≤ (aA : Int) := od_
    have aR : aA < (l0.length : Int) := od_
    obtain ⟨aZ, bD, aH, aG⟩ := at_T45 bH.out aA aU aR
    have aK := aG
    have aL := aH
    obtain rfl : aB = aZ := (by injection bD)
    replace aH := hc_ HB.out aH
    replace aG := hc_ HB.out aG
    replace aU := eq_true aU
    replace aR := eq_true aR
    refine sr_ (fun w' => w'.cell? (aB.add ((aA).toNat * 2)) = some (.string ((rd_T45 l0 aA).f0)) ∧ w'.cell? ⟨(aB.add ((aA).toNat * 2)).block, (aB.add ((aA).toNat * 2)).off + 1, none⟩ = some (.string ((rd_T45 l0 aA).f1)) ∧ w'.cell? (aB.add (((aO)).toNat * 2)) = some (.string ((rd_T45 l0 (aO)).f0)) ∧ w'.cell? ⟨(aB.add (((aO)).toNat * 2)).block, (aB.add (((aO)).toNat * 2)).off + 1, none⟩ = some (.string ((rd_T45 l0 (aO)).f1)) ∧ w'.cell? (aB.add ((aA).toNat * 2)) = some (.string ((rd_T45 l0 aA).f0)) ∧ w'.cell? ⟨(aB.add ((aA).toNat * 2)).block, (aB.add ((aA).toNat * 2)).off + 1, none⟩ = some (.string ((rd_T45 l0 aA).f1))) [] spec_PairsOk.tab4 spec_PairsOk.bits4 ⟨(hc_ HB.out aF), (hc_ HB.out aE), (hc_ HB.out aN), (hc_ HB.out aM), (hc_ HB.out aL), (hc_ HB.out aK)⟩ (fun hD hT hW => ?_)
    generalize wr.drew = bU at HB aD aC aJ aI aH aG hD ⊢
    refine p_ 0 10 hT ?_; refine p_ 1 11 hT ?_; refine p_ 2 12 hT ?_; refine k_ 3 13 hT hW hD ?_
    refine oc_ 4 14 (bq_ 5 19) hT Try.func54 #[.agg #[.string ((rd_T45 l0 aA).f0), .string ((rd_T45 l0 aA).f1)]] ?_
    with_reducible refine (spec_PairOk.calls k1 ((rd_T45 l0 aA).f0) ((rd_T45 l0 aA).f1) true _ A4.out).mono ?_
    rintro e bT ⟨rfl, hb⟩
    refine ⟨_, rfl, ?_⟩
    replace HB := q_ (below_step (be_ HB.out) hb)
    (try clear hb)
    (try clear bL)
    (try clear hk)
    (try clear hi)
    refine ⟨⟨(hc_ HB.out aF), (hc_ HB.out aE), (hc_ HB.out aN), (hc_ HB.out aM), (hc_ HB.out aL), (hc_ HB.out aK)⟩, fun hD => nm_ ?_⟩
    refine p_ 5 15 hT ?_; refine p_ 6 16 hT ?_; refine p_ 7 17 hT ?_; refine p_ 8 18 hT ?_; refine p_ 9 19 hT ?_; refine p_ 10 20 hT ?_; refine p_ 11 21 hT ?_; refine p_ 12 22 hT ?_; refine p_ 13 23 hT ?_; refine p_ 14 24 hT ?_; refine p_ 16 26 hT ?_; refine p_ 17 27 hT ?_; refine p_ 18 28 hT ?_; refine p_ 19 29 hT ?_; refine k_ 15 25 hT hW hD ?_; refine k_ 20 30 hT hW hD ?_; refine p_ 21 31 hT ?_; refine p_ 22 32 hT ?_; refine p_ 23 33 hT ?_
    by_cases aY : ((Op.bytesLess (((rd_T45 l0 (aO)).f0).toList) (((rd_T45 l0 aA).f0).toList)) = true)
    ·
     have H := HZ.out
     try clear HZ
     rw [if_pos aY] at H
     have aQ : (Op.bytesLess (((rd_T45 l0 (aO)).f0).toList) (((rd_T45 l0 aA).f0).toList)) = true := aY
     clear aY
     have H' := Aside0.mk H
     clear H
     first | rw [aQ] | skip
     refine done_ (done_of hT.out (by kernel_rfl)) ?_
     try go_wp2
     go_roundg k1
     case measure => have := bB.out; omega
     case rel => exact ⟨(wrap64 (aA + 1)), rs_, H', ⟨by have := bB.out; omega⟩, ⟨be_ HB.out⟩⟩
    have H := HZ.out
    try clear HZ
    rw [if_neg aY] at H
    have aQ : (Op.bytesLess (((rd_T45 l0 (aO)).f0).toList) (((rd_T45 l0 aA).f0).toList)) = false := by simpa using aY
    clear aY
    obtain rfl := Option.some.inj H
    first | rw [aQ] | skip
    refine done_ (done_of hT.out (by kernel_rfl)) ?_
    try go_wp2
    go_ret
    exact ⟨by first | rfl | (simp [errW_none, errW_some] <;> rfl) | (simp only [← aP]; first | rfl | (simp [errW_none, errW_some] <;> rfl)) | (simp [*, errW_none, errW_some] <;> rfl), be_ HB.out⟩
   ·
    rw [if_neg c2] at H
    have bG := decide_eq_false c2
    clear c2
    obtain rfl := Option.some.inj H
    go_wp2
    go_ret
    exact ⟨rf_, be_ HB.out⟩
mutual
def spec_Padded.l0 : Nat → List Int → List Int → Option (List Int)
 | 0, _, _ => none
 | k + 1, x0, x3 => if ((x3.length : Int) % 64) = 56 then (spec_Padded.l1 k x3 (wrap64 ((x0.length : Int) * 8)) 56) else (if x3.length < 140737488355328 then (spec_Padded.l0 k x0 (x3 ++ [0])) else (none))
def spec_Padded.l1 : Nat → List Int → Int → Int → Option (List Int)
 | 0, _, _, _ => none
 | k + 1, x3, x4, x5 => if x5 ≥ 0 then (if 0 ≤ (IntKind.u64.wrap (x5)) then (if x3.length < 140737488355328 then (spec_Padded.l1 k (x3 ++ [(shr .i64 x4 (IntKind.u64.wrap (x5))) % 256]) x4 (wrap64 (x5 - 8))) else (none)) else (none)) else (some x3)
end
def spec_Padded.f (k : Nat) (l0 : List Int) : Option (List Int) := (some (([] : List Int) : List Int)).bind fun aB => (if aB.length + l0.length < 140737488355328 then ((some (aB ++ l0 : List Int)).bind fun aA => (if aA.length < 140737488355328 then (spec_Padded.l0 k l0 (aA ++ [128])) else (none))) else (none))
theorem spec_Padded.calls (k : Nat) (A0 : Option Addr) (c0 : Nat) (l0 : List Int) (r : List Int) (w : World) (cB : Kd.C (Kd.int .u8) w A0 l0.length l0) (cC : l0.length ≤ c0) (h : spec_Padded.f k l0 = some r) :
 Calls Try.prog 70 #[.slice A0 l0.length c0] w fun e w' => ∃ v0_ : Value, e = .returned (v0_) ∧ Kd.R (Kd.int .u8) 5 w' w.heap.size (fun _ => True) v0_ r ∧ Below w.heap.size w w' := by
 have cK := Aside0.mk cB
 have cO := Aside0.mk cC
 clear cB cC
 have HB := q_ (Below.refl w.heap.size w)
 have H := h
 clear h
 unfold spec_Padded.f at H
 obtain ⟨bO, aU, H⟩ := by_ H
 obtain ⟨bZ, H⟩ := ia_ H
 obtain ⟨aY, bE, H⟩ := by_ H
 obtain ⟨bY, H⟩ := ia_ H
 obtain ⟨bN, aQ⟩ : ∃ y_ : List Int, y_ = (aY ++ [128]) := ⟨_, rfl⟩
 rw [← aQ] at H
 have bD := Aside0.mk aQ
 clear aQ
 have H' := Aside0.mk H
 clear H
 go_enter Try.func70, Try.ntmps70
 go_wp2_with (first | ((with_reducible refine gate_dst (N := 6) rfl ?_); refine Kd.R_lit (Kd.int .u8) _ 5 ?hg (N := 6) ?hd (xs := ([] : List Int)) (inner := []) (ok := fun _ => True) (okp := fun _ => True) ?hr ?hp (fun _ hk => hk) trivial (Below.refl _ _) (Nat.le_refl _) (by simp) ?_; (case hd => rfl); (case hg => rfl); (case hr => first | (go_simp; done) | (go_simp; rfl)); (case hp => exact (Reps.none _ _)); intro bQ w4 aZ hb hg_ hnew_; clear hg_ hnew_; (first | rw [← aU.out] at aZ | (simp only [Int.reduceToNat] at aZ; rw [← aU.out] at aZ)); have aW := q_ (Kd.R_lower aZ (below_size (be_ HB.out))); replace HB := q_ (below_step (be_ HB.out) hb); clear hb aZ) | ((with_reducible refine gate_builtin (b := .append) (xs := #[.tmp 6, .tmp 7]) rfl ?_); at_builtin; refine Kd.R_append_rows (Kd.int .u8) (w0 := w) w.heap.size rfl (.tmp 6) (.tmp 7) 22 5 (.int .u8 0) 1 rfl Try.underlying22 info5 rfl (by decide) (by omega) bQ bO l0 _ _ _ (fun _ => True) (fun _ => False) rfl rfl ?aO ?aR (fun _ _ h => h) (fun _ h => h.elim) ?aF ?aB ?aS ?aL ?_; (case aR => exact kc_ (Kd.C_below cK.out HB.out)); (case aB => exact (be_ HB.out)); (case aF => exact (fun _ _ => trivial)); (case aO => exact (kr_ aW.out)); (case aS => exact (below_size (be_ HB.out))); (case aL => have := bZ.out; omega); intro bP w6 ho hb hg hat; rw [← bE.out] at ho; have aI := q_ (hb); have aH := q_ (ho); clear HB; clear aW; have HB := aI; have aV := aH; clear aI aH; clear ho hb hg hat) | ((with_reducible refine gate_builtin (b := .append) (xs := #[.tmp 8, .tmp 9]) rfl ?_); at_builtin; refine Kd.R_append (Kd.int .u8) (w0 := w) w.heap.size rfl (.tmp 8) (.tmp 9) 22 5 (.int .u8 0) 1 rfl Try.underlying22 info5 rfl (by decide) (by omega) bP aY 128 [.int .u8 128] (fun _ => True) (fun _ => False) rfl rfl ?aP (fun _ hk => hk.elim) ?aF ?aO ?aB ?aS ?aL ?_; (case aP => exact rfl); (case aB => exact (be_ HB.out)); (case aF => exact (fun _ _ => trivial)); (case aO => exact (kr_ aV.out)); (case aS => exact (below_size (be_ HB.out))); (case aL => have := bY.out; omega); intro cI w7 ho hb hg hat; rw [← bD.out] at ho; have aI := q_ (hb); have aH := q_ (ho); clear HB; clear aV; have HB := aI; have bJ := aH; clear aI aH; clear ho hb hg hat))
 go_loopg [3] k (fun kq v3 w' => ∃ (aD : List Int), Aside0 (spec_Padded.l0 kq l0 aD = some r) ∧ Aside0 (kq ≤ k) ∧ Aside0 (Kd.R (Kd.int .u8) 5 w' w.heap.size (fun _ => True) v3 aD) ∧ Aside0 (Below w.heap.size w w'))
 case atStart => exact ⟨(bN), H', ⟨Nat.le_refl _⟩, ⟨kr_ bJ.out⟩, ⟨be_ HB.out⟩⟩
 case round =>
  clear H'
  obtain ⟨aD, HA, bK, aA, HB⟩ := hrel
  cases gk with
  | zero => exact absurd HA.out (by simp [spec_Padded.l0])
  | succ k1 =>
   have H := HA.out
   clear HA
   simp only [spec_Padded.l0] at H
   by_cases c8 : ((aD.length : Int) % 64) = 56
   ·
    rw [if_pos c8] at H
    have bW := beq_iff_eq.mpr c8
    have bV := bne_eq_false_iff_eq.mpr c8
    clear c8
    have H' := Aside0.mk H
    clear H
    obtain ⟨cP, cN, cJ⟩ := Kd.R_slice aA.out
    subst cJ
    go_wp2
    go_loopg [3, 5] k1 (fun kq v3 v5 w' => ∃ (aG : List Int) (aC : Int), v5 = .int .i64 aC ∧ Aside0 (spec_Padded.l1 kq aG (wrap64 ((l0.length : Int) * 8)) aC = some r) ∧ Aside0 (kq ≤ k1) ∧ Aside0 (Kd.R (Kd.int .u8) 5 w' w.heap.size (fun _ => True) v3 aG) ∧ Aside0 (Below w.heap.size w w'))
    case atStart => exact ⟨(aD), (56), rs_, H', ⟨Nat.le_refl _⟩, ⟨kr_ aA.out⟩, ⟨be_ HB.out⟩⟩
    case round =>
     clear H'
     obtain ⟨aG, aC, rfl, HA, cF, aA, HB⟩ := hrel
     cases gk with
     | zero => exact absurd HA.out (by simp [spec_Padded.l1])
     | succ k2 =>
      have H := HA.out
      clear HA
      simp only [spec_Padded.l1] at H
      by_cases aX : aC ≥ 0
      rotate_left
      · rw [if_neg aX] at H
        have bA : decide (0 ≤ aC) = false := decide_eq_false aX
        clear aX
        obtain rfl := Option.some.inj H
        go_wp2
        go_ret
        exact ⟨_, rf_, kr_ aA.out, be_ HB.out⟩
      rw [if_pos aX] at H
      have bA : decide (0 ≤ aC) = true := decide_eq_true aX
      clear aX
      obtain ⟨aK, aT⟩ : ∃ j_ : Int, (IntKind.u64.wrap (aC)) = j_ := ⟨_, rfl⟩
      first | rw [aT] at H | simp only [aT] at H
      obtain ⟨bX, H⟩ := ip_ H
      have cE := eq_true bX
      have cD : decide (0 ≤ (aK)) = true := decide_eq_true bX
      clear bX
      obtain ⟨aJ, aE⟩ : ∃ j_ : Int, (shr .i64 (wrap64 ((l0.length : Int) * 8)) (aK)) = j_ := ⟨_, rfl⟩
      first | rw [aE] at H | simp only [aE] at H
      have bS : ((wrap64 ((l0.length : Int) * 8)) / 2 ^ min (aK).toNat 64) = aJ := aE
      have bR : (aK) ≤ 64 → ((wrap64 ((l0.length : Int) * 8)) / 2 ^ (aK).toNat) = aJ := shr_small aE
      obtain ⟨bG, H⟩ := ia_ H
      obtain ⟨bL, aM⟩ : ∃ y_ : List Int, y_ = (aG ++ [(aJ) % 256]) := ⟨_, rfl⟩
      rw [← aM] at H
      have bB := Aside0.mk aM
      clear aM
      have H' := Aside0.mk H
      clear H
      go_wp2_with (first | ((with_reducible refine gate_builtin (b := .append) (xs := #[.tmp 25, .tmp 31]) rfl ?_); at_builtin; refine Kd.R_append (Kd.int .u8) (w0 := w) w.heap.size rfl (.tmp 25) (.tmp 31) 22 5 (.int .u8 0) 1 rfl Try.underlying22 info5 rfl (by decide) (by omega) u3 aG ((aJ) % 256) [.int .u8 ((aJ) % 256)] (fun _ => True) (fun _ => False) rfl rfl ?aP (fun _ hk => hk.elim) ?aF ?aO ?aB ?aS ?aL ?_; (case aP => exact rfl); (case aB => exact (be_ HB.out)); (case aF => exact (fun _ _ => trivial)); (case aO => exact (kr_ aA.out)); (case aS => exact (below_size (be_ HB.out))); (case aL => have := bG.out; omega); intro cG cM ho hb hg hat; rw [← bB.out] at ho; have aI := q_ (hb); have aH := q_ (ho); clear HB; clear aA; have HB := aI; have bH := aH; clear aI aH; clear ho hb hg hat))
      go_roundg k2
      case measure => have := bK.out; have := cF.out; omega
      case rel => exact ⟨(bL), (wrap64 (aC - 8)), rs_, H', ⟨by have := bK.out; have := cF.out; omega⟩, ⟨kr_ bH.out⟩, ⟨be_ HB.out⟩⟩
   ·
    rw [if_neg c8] at H
    have bW := beq_eq_false_iff_ne.mpr c8
    have bV := bne_iff_ne.mpr c8
    obtain ⟨bF, H⟩ := ia_ H
    obtain ⟨bM, aN⟩ : ∃ y_ : List Int, y_ = (aD ++ [0]) := ⟨_, rfl⟩
    rw [← aN] at H
    have bC := Aside0.mk aN
    clear aN
    have H' := Aside0.mk H
    clear H
    obtain ⟨cA, bU, bT⟩ := Kd.R_slice aA.out
    subst bT
    go_wp2_with (first | ((with_reducible refine gate_builtin (b := .append) (xs := #[.tmp 15, .tmp 16]) rfl ?_); at_builtin; refine Kd.R_append (Kd.int .u8) (w0 := w) w.heap.size rfl (.tmp 15) (.tmp 16) 22 5 (.int .u8 0) 1 rfl Try.underlying22 info5 rfl (by decide) (by omega) (.slice cA aD.length bU) aD 0 [.int .u8 0] (fun _ => True) (fun _ => False) rfl rfl ?aP (fun _ hk => hk.elim) ?aF ?aO ?aB ?aS ?aL ?_; (case aP => exact rfl); (case aB => exact (be_ HB.out)); (case aF => exact (fun _ _ => trivial)); (case aO => exact (kr_ aA.out)); (case aS => exact (below_size (be_ HB.out))); (case aL => have := bF.out; omega); intro cH cL ho hb hg hat; rw [← bC.out] at ho; have aI := q_ (hb); have aH := q_ (ho); clear HB; clear aA; have HB := aI; have bI := aH; clear aI aH; clear ho hb hg hat))
    go_roundg k1
    case measure => have := bK.out; omega
    case rel => exact ⟨(bM), H', ⟨by have := bK.out; omega⟩, ⟨kr_ bI.out⟩, ⟨be_ HB.out⟩⟩
def spec_l2K.f  : Option (List Int) := some (([1116352408, 1899447441, 3049323471, 3921009573, 961987163, 1508970993, 2453635748, 2870763221, 3624381080, 310598401, 607225278, 1426881987, 1925078388, 2162078206, 2614888103, 3248222580, 3835390401, 4022224774, 264347078, 604807628, 770255983, 1249150122, 1555081692, 1996064986, 2554220882, 2821834349, 2952996808, 3210313671, 3336571891, 3584528711, 113926993, 338241895, 666307205, 773529912, 1294757372, 1396182291, 1695183700, 1986661051, 2177026350, 2456956037, 2730485921, 2820302411, 3259730800, 3345764771, 3516065817, 3600352804, 4094571909, 275423344, 430227734, 506948616, 659060556, 883997877, 958139571, 1322822218, 1537002063, 1747873779, 1955562222, 2024104815, 2227730452, 2361852424, 2428436474, 2756734187, 3204031479, 3329325298] : List Int))
theorem spec_l2K.calls  (r : List Int) (w : World) (h : spec_l2K.f  = some r) :
 Calls Try.prog 71 #[] w fun e w' => ∃ v0_ : Value, e = .returned (v0_) ∧ Kd.R (Kd.int .i64) 3 w' w.heap.size (fun _ => True) v0_ r ∧ Below w.heap.size w w' := by
 have HB := q_ (Below.refl w.heap.size w)
 have H := h
 clear h
 unfold spec_l2K.f at H
 obtain ⟨aE, aA⟩ : ∃ y_ : List Int, y_ = (([1116352408, 1899447441, 3049323471, 3921009573, 961987163, 1508970993, 2453635748, 2870763221, 3624381080, 310598401, 607225278, 1426881987, 1925078388, 2162078206, 2614888103, 3248222580, 3835390401, 4022224774, 264347078, 604807628, 770255983, 1249150122, 1555081692, 1996064986, 2554220882, 2821834349, 2952996808, 3210313671, 3336571891, 3584528711, 113926993, 338241895, 666307205, 773529912, 1294757372, 1396182291, 1695183700, 1986661051, 2177026350, 2456956037, 2730485921, 2820302411, 3259730800, 3345764771, 3516065817, 3600352804, 4094571909, 275423344, 430227734, 506948616, 659060556, 883997877, 958139571, 1322822218, 1537002063, 1747873779, 1955562222, 2024104815, 2227730452, 2361852424, 2428436474, 2756734187, 3204031479, 3329325298] : List Int)) := ⟨_, rfl⟩
 rw [← aA] at H
 have aB := Aside0.mk aA
 clear aA
 obtain rfl := Option.some.inj H
 go_enter Try.func71, Try.ntmps71
 go_wp2_with (first | ((with_reducible refine gate_dst (N := 1) rfl ?_); refine Kd.R_lit (Kd.int .i64) _ 3 ?hg (N := 1) ?hd (xs := ([1116352408, 1899447441, 3049323471, 3921009573, 961987163, 1508970993, 2453635748, 2870763221, 3624381080, 310598401, 607225278, 1426881987, 1925078388, 2162078206, 2614888103, 3248222580, 3835390401, 4022224774, 264347078, 604807628, 770255983, 1249150122, 1555081692, 1996064986, 2554220882, 2821834349, 2952996808, 3210313671, 3336571891, 3584528711, 113926993, 338241895, 666307205, 773529912, 1294757372, 1396182291, 1695183700, 1986661051, 2177026350, 2456956037, 2730485921, 2820302411, 3259730800, 3345764771, 3516065817, 3600352804, 4094571909, 275423344, 430227734, 506948616, 659060556, 883997877, 958139571, 1322822218, 1537002063, 1747873779, 1955562222, 2024104815, 2227730452, 2361852424, 2428436474, 2756734187, 3204031479, 3329325298] : List Int)) (inner := [.int .i64 1116352408, .int .i64 1899447441, .int .i64 3049323471, .int .i64 3921009573, .int .i64 961987163, .int .i64 1508970993, .int .i64 2453635748, .int .i64 2870763221, .int .i64 3624381080, .int .i64 310598401, .int .i64 607225278, .int .i64 1426881987, .int .i64 1925078388, .int .i64 2162078206, .int .i64 2614888103, .int .i64 3248222580, .int .i64 3835390401, .int .i64 4022224774, .int .i64 264347078, .int .i64 604807628, .int .i64 770255983, .int .i64 1249150122, .int .i64 1555081692, .int .i64 1996064986, .int .i64 2554220882, .int .i64 2821834349, .int .i64 2952996808, .int .i64 3210313671, .int .i64 3336571891, .int .i64 3584528711, .int .i64 113926993, .int .i64 338241895, .int .i64 666307205, .int .i64 773529912, .int .i64 1294757372, .int .i64 1396182291, .int .i64 1695183700, .int .i64 1986661051, .int .i64 2177026350, .int .i64 2456956037, .int .i64 2730485921, .int .i64 2820302411, .int .i64 3259730800, .int .i64 3345764771, .int .i64 3516065817, .int .i64 3600352804, .int .i64 4094571909, .int .i64 275423344, .int .i64 430227734, .int .i64 506948616, .int .i64 659060556, .int .i64 883997877, .int .i64 958139571, .int .i64 1322822218, .int .i64 1537002063, .int .i64 1747873779, .int .i64 1955562222, .int .i64 2024104815, .int .i64 2227730452, .int .i64 2361852424, .int .i64 2428436474, .int .i64 2756734187, .int .i64 3204031479, .int .i64 3329325298]) (ok := fun _ => True) (okp := fun _ => True) ?hr ?hp (fun _ hk => hk) trivial (Below.refl _ _) (Nat.le_refl _) (by simp) ?_; (case hd => rfl); (case hg => rfl); (case hr => first | (go_simp; done) | (go_simp; rfl)); (case hp => exact (Reps.one (show Kd.M (Kd.int .i64) _ _ _ 1116352408 [.int .i64 1116352408] from rfl) (Reps.one (show Kd.M (Kd.int .i64) _ _ _ 1899447441 [.int .i64 1899447441] from rfl) (Reps.one (show Kd.M (Kd.int .i64) _ _ _ 3049323471 [.int .i64 3049323471] from rfl) (Reps.one (show Kd.M (Kd.int .i64) _ _ _ 3921009573 [.int .i64 3921009573] from rfl) (Reps.one (show Kd.M (Kd.int .i64) _ _ _ 961987163 [.int .i64 961987163] from rfl) (Reps.one (show Kd.M (Kd.int .i64) _ _ _ 1508970993 [.int .i64 1508970993] from rfl) (Reps.one (show Kd.M (Kd.int .i64) _ _ _ 2453635748 [.int .i64 2453635748] from rfl) (Reps.one (show Kd.M (Kd.int .i64) _ _ _ 2870763221 [.int .i64 2870763221] from rfl) (Reps.one (show Kd.M (Kd.int .i64) _ _ _ 3624381080 [.int .i64 3624381080] from rfl) (Reps.one (show Kd.M (Kd.int .i64) _ _ _ 310598401 [.int .i64 310598401] from rfl) (Reps.one (show Kd.M (Kd.int .i64) _ _ _ 607225278 [.int .i64 607225278] from rfl) (Reps.one (show Kd.M (Kd.int .i64) _ _ _ 1426881987 [.int .i64 1426881987] from rfl) (Reps.one (show Kd.M (Kd.int .i64) _ _ _ 1925078388 [.int .i64 1925078388] from rfl) (Reps.one (show Kd.M (Kd.int .i64) _ _ _ 2162078206 [.int .i64 2162078206] from rfl) (Reps.one (show Kd.M (Kd.int .i64) _ _ _ 2614888103 [.int .i64 2614888103] from rfl) (Reps.one (show Kd.M (Kd.int .i64) _ _ _ 3248222580 [.int .i64 3248222580] from rfl) (Reps.one (show Kd.M (Kd.int .i64) _ _ _ 3835390401 [.int .i64 3835390401] from rfl) (Reps.one (show Kd.M (Kd.int .i64) _ _ _ 4022224774 [.int .i64 4022224774] from rfl) (Reps.one (show Kd.M (Kd.int .i64) _ _ _ 264347078 [.int .i64 264347078] from rfl) (Reps.one (show Kd.M (Kd.int .i64) _ _ _ 604807628 [.int .i64 604807628] from rfl) (Reps.one (show Kd.M (Kd.int .i64) _ _ _ 770255983 [.int .i64 770255983] from rfl) (Reps.one (show Kd.M (Kd.int .i64) _ _ _ 1249150122 [.int .i64 1249150122] from rfl) (Reps.one (show Kd.M (Kd.int .i64) _ _ _ 1555081692 [.int .i64 1555081692] from rfl) (Reps.one (show Kd.M (Kd.int .i64) _ _ _ 1996064986 [.int .i64 1996064986] from rfl) (Reps.one (show Kd.M (Kd.int .i64) _ _ _ 2554220882 [.int .i64 2554220882] from rfl) (Reps.one (show Kd.M (Kd.int .i64) _ _ _ 2821834349 [.int .i64 2821834349] from rfl) (Reps.one (show Kd.M (Kd.int .i64) _ _ _ 2952996808 [.int .i64 2952996808] from rfl) (Reps.one (show Kd.M (Kd.int .i64) _ _ _ 3210313671 [.int .i64 3210313671] from rfl) (Reps.one (show Kd.M (Kd.int .i64) _ _ _ 3336571891 [.int .i64 3336571891] from rfl) (Reps.one (show Kd.M (Kd.int .i64) _ _ _ 3584528711 [.int .i64 3584528711] from rfl) (Reps.one (show Kd.M (Kd.int .i64) _ _ _ 113926993 [.int .i64 113926993] from rfl) (Reps.one (show Kd.M (Kd.int .i64) _ _ _ 338241895 [.int .i64 338241895] from rfl) (Reps.one (show Kd.M (Kd.int .i64) _ _ _ 666307205 [.int .i64 666307205] from rfl) (Reps.one (show Kd.M (Kd.int .i64) _ _ _ 773529912 [.int .i64 773529912] from rfl) (Reps.one (show Kd.M (Kd.int .i64) _ _ _ 1294757372 [.int .i64 1294757372] from rfl) (Reps.one (show Kd.M (Kd.int .i64) _ _ _ 1396182291 [.int .i64 1396182291] from rfl) (Reps.one (show Kd.M (Kd.int .i64) _ _ _ 1695183700 [.int .i64 1695183700] from rfl) (Reps.one (show Kd.M (Kd.int .i64) _ _ _ 1986661051 [.int .i64 1986661051] from rfl) (Reps.one (show Kd.M (Kd.int .i64) _ _ _ 2177026350 [.int .i64 2177026350] from rfl) (Reps.one (show Kd.M (Kd.int .i64) _ _ _ 2456956037 [.int .i64 2456956037] from rfl) (Reps.one (show Kd.M (Kd.int .i64) _ _ _ 2730485921 [.int .i64 2730485921] from rfl) (Reps.one (show Kd.M (Kd.int .i64) _ _ _ 2820302411 [.int .i64 2820302411] from rfl) (Reps.one (show Kd.M (Kd.int .i64) _ _ _ 3259730800 [.int .i64 3259730800] from rfl) (Reps.one (show Kd.M (Kd.int .i64) _ _ _ 3345764771 [.int .i64 3345764771] from rfl) (Reps.one (show Kd.M (Kd.int .i64) _ _ _ 3516065817 [.int .i64 3516065817] from rfl) (Reps.one (show Kd.M (Kd.int .i64) _ _ _ 3600352804 [.int .i64 3600352804] from rfl) (Reps.one (show Kd.M (Kd.int .i64) _ _ _ 4094571909 [.int .i64 4094571909] from rfl) (Reps.one (show Kd.M (Kd.int .i64) _ _ _ 275423344 [.int .i64 275423344] from rfl) (Reps.one (show Kd.M (Kd.int .i64) _ _ _ 430227734 [.int .i64 430227734] from rfl) (Reps.one (show Kd.M (Kd.int .i64) _ _ _ 506948616 [.int .i64 506948616] from rfl) (Reps.one (show Kd.M (Kd.int .i64) _ _ _ 659060556 [.int .i64 659060556] from rfl) (Reps.one (show Kd.M (Kd.int .i64) _ _ _ 883997877 [.int .i64 883997877] from rfl) (Reps.one (show Kd.M (Kd.int .i64) _ _ _ 958139571 [.int .i64 958139571] from rfl) (Reps.one (show Kd.M (Kd.int .i64) _ _ _ 1322822218 [.int .i64 1322822218] from rfl) (Reps.one (show Kd.M (Kd.int .i64) _ _ _ 1537002063 [.int .i64 1537002063] from rfl) (Reps.one (show Kd.M (Kd.int .i64) _ _ _ 1747873779 [.int .i64 1747873779] from rfl) (Reps.one (show Kd.M (Kd.int .i64) _ _ _ 1955562222 [.int .i64 1955562222] from rfl) (Reps.one (show Kd.M (Kd.int .i64) _ _ _ 2024104815 [.int .i64 2024104815] from rfl) (Reps.one (show Kd.M (Kd.int .i64) _ _ _ 2227730452 [.int .i64 2227730452] from rfl) (Reps.one (show Kd.M (Kd.int .i64) _ _ _ 2361852424 [.int .i64 2361852424] from rfl) (Reps.one (show Kd.M (Kd.int .i64) _ _ _ 2428436474 [.int .i64 2428436474] from rfl) (Reps.one (show Kd.M (Kd.int .i64) _ _ _ 2756734187 [.int .i64 2756734187] from rfl) (Reps.one (show Kd.M (Kd.int .i64) _ _ _ 3204031479 [.int .i64 3204031479] from rfl) (Reps.one (show Kd.M (Kd.int .i64) _ _ _ 3329325298 [.int .i64 3329325298] from rfl) (Reps.none _ _)))))))))))))))))))))))))))))))))))))))))))))))))))))))))))))))))); intro aF w1 aC hb hg_ hnew_; clear hg_ hnew_; (first | rw [← aB.out] at aC | (simp only [Int.reduceToNat] at aC; rw [← aB.out] at aC)); have aD := q_ (Kd.R_lower aC (below_size (be_ HB.out))); replace HB := q_ (below_step (be_ HB.out) hb); clear hb aC))
 go_ret
 exact ⟨_, rf_, kr_ aD.out, be_ HB.out⟩
def spec_l2Turn.f (a0 : Int) (a1 : Int) : Option (Int) := if 0 ≤ (IntKind.u64.wrap (a1)) then (if 0 ≤ (IntKind.u64.wrap (wrap64 (32 - a1))) then (some (Go.bits .and .i64 (Go.bits .or .i64 (shr .i64 a0 (IntKind.u64.wrap (a1))) (shl .i64 a0 (IntKind.u64.wrap (wrap64 (32 - a1))))) 4294967295)) else (none)) else (none)
theorem spec_l2Turn.calls (a0 : Int) (a1 : Int) (r : Int) (w : World) (h : spec_l2Turn.f a0 a1 = some r) :
 Calls Try.prog 87 #[.int .i64 a0, .int .i64 a1] w fun e w' => e = .returned (.int .i64 r) ∧ Drawn0 w w' := by
 have H := h
 clear h
 unfold spec_l2Turn.f at H
 obtain ⟨aF, aE⟩ : ∃ j_ : Int, (IntKind.u64.wrap (a1)) = j_ := ⟨_, rfl⟩
 first | rw [aE] at H | simp only [aE] at H
 obtain ⟨c4, H⟩ := ip_ H
 have aR := eq_true c4
 have aQ : decide (0 ≤ (aF)) = true := decide_eq_true c4
 clear c4
 obtain ⟨aJ, aB⟩ : ∃ j_ : Int, (shr .i64 a0 (aF)) = j_ := ⟨_, rfl⟩
 first | rw [aB] at H | simp only [aB] at H
 have aN : (a0 / 2 ^ min (aF).toNat 64) = aJ := aB
 have aM : (aF) ≤ 64 → (a0 / 2 ^ (aF).toNat) = aJ := shr_small aB
 obtain ⟨aC, aD⟩ : ∃ j_ : Int, (IntKind.u64.wrap (wrap64 (32 - a1))) = j_ := ⟨_, rfl⟩
 first | rw [aD] at H | simp only [aD] at H
 obtain ⟨c7, H⟩ := ip_ H
 have aP := eq_true c7
 have aO : decide (0 ≤ (aC)) = true := decide_eq_true c7
 clear c7
 obtain ⟨aI, aA⟩ : ∃ j_ : Int, (shl .i64 a0 (aC)) = j_ := ⟨_, rfl⟩
 first | rw [aA] at H | simp only [aA] at H
 have aH : (IntKind.i64.wrap (a0 * 2 ^ min (aC).toNat 64)) = aI := aA
 have aG : (aC) ≤ 64 → (IntKind.i64.wrap (a0 * 2 ^ (aC).toNat)) = aI := shl_small aA
 have aK : (wrap64 (a0 * 2 ^ min (aC).toNat 64)) = aI := (i64_w _).symm.trans aH
 have aL : (aC) ≤ 64 → (wrap64 (a0 * 2 ^ (aC).toNat)) = aI := fun h_ => (i64_w _).symm.trans (aG h_)
 obtain rfl := Option.some.inj H
 go_enter Try.func87, Try.ntmps87
 go_wp2
 go_ret
 exact ⟨by first | rfl | (simp; done) | (simp only [← aE, ← aB, ← aD, ← aA] <;> (first | rfl | simp)) | (simp [*]; done), by repeat (first | exact Drawn0.refl _ | apply Drawn0.step)⟩
section
mutual
def spec_l2Words.l0 : Nat → List Int → List Int → Int → Option (List Int)
 | 0, _, _, _ => none
 | k + 1, x0, x3, x4 => if x4 < 16 then (if 0 ≤ (wrap64 (4 * x4)) then (if (wrap64 (4 * x4)) < (x0.length : Int) then (if 0 ≤ (wrap64 ((wrap64 (4 * x4)) + 1)) then (if (wrap64 ((wrap64 (4 * x4)) + 1)) < (x0.length : Int) then (if 0 ≤ (wrap64 ((wrap64 (4 * x4)) + 2)) then (if (wrap64 ((wrap64 (4 * x4)) + 2)) < (x0.length : Int) then (if 0 ≤ (wrap64 ((wrap64 (4 * x4)) + 3)) then (if (wrap64 ((wrap64 (4 * x4)) + 3)) < (x0.length : Int) then (if x3.length < 17592186044416 then (spec_l2Words.l0 k x0 (x3 ++ [Go.bits .or .i64 (Go.bits .or .i64 (Go.bits .or .i64 (wrap64 ((wrap64 (rd x0 (wrap64 (4 * x4)))) * 16777216)) (wrap64 ((wrap64 (rd x0 (wrap64 ((wrap64 (4 * x4)) + 1)))) * 65536))) (wrap64 ((wrap64 (rd x0 (wrap64 ((wrap64 (4 * x4)) + 2)))) * 256))) (wrap64 (rd x0 (wrap64 ((wrap64 (4 * x4)) + 3))))]) (wrap64 (x4 + 1))) else (none)) else (none)) else (none)) else (none)) else (none)) else (none)) else (none)) else (none)) else (none)) else (spec_l2Words.l1 k x3 16)
def spec_l2Words.l1 : Nat → List Int → Int → Option (List Int)
 | 0, _, _ => none
 | k + 1, x3, x5 => if x5 < 64 then (if 0 ≤ (wrap64 (x5 - 15)) then (if (wrap64 (x5 - 15)) < (x3.length : Int) then (if 0 ≤ (wrap64 (x5 - 2)) then (if (wrap64 (x5 - 2)) < (x3.length : Int) then ((spec_l2Turn.f (rd x3 (wrap64 (x5 - 15))) 7).bind fun aD => ((spec_l2Turn.f (rd x3 (wrap64 (x5 - 15))) 18).bind fun aC => ((spec_l2Turn.f (rd x3 (wrap64 (x5 - 2))) 17).bind fun aB => ((spec_l2Turn.f (rd x3 (wrap64 (x5 - 2))) 19).bind fun aA => (if 0 ≤ (wrap64 (x5 - 16)) then (if (wrap64 (x5 - 16)) < (x3.length : Int) then (if 0 ≤ (wrap64 (x5 - 7)) then (if (wrap64 (x5 - 7)) < (x3.length : Int) then (if x3.length < 17592186044416 then (spec_l2Words.l1 k (x3 ++ [Go.bits .and .i64 (wrap64 ((wrap64 ((wrap64 ((rd x3 (wrap64 (x5 - 16))) + (Go.bits .xor .i64 (Go.bits .xor .i64 aD aC) ((rd x3 (wrap64 (x5 - 15))) / 8)))) + (rd x3 (wrap64 (x5 - 7))))) + (Go.bits .xor .i64 (Go.bits .xor .i64 aB aA) ((rd x3 (wrap64 (x5 - 2))) / 1024)))) 4294967295]) (wrap64 (x5 + 1))) else (none)) else (none)) else (none)) else (none)) else (none)))))) else (none)) else (none)) else (none)) else (none)) else (some x3)
end
def spec_l2Words.f (k : Nat) (l0 : List Int) : Option (List Int) := spec_l2Words.l0 k l0 (([] : List Int)) 0
def spec_l2Words.T5 : Bool × List (List Nat × List Nat) := (true, [([], []), ([], []), ([], []), ([2], [2]), ([1, 3], [1, 3]), ([4], [4]), ([5], [5]), ([6], [6]), ([], []), ([], []), ([9], [9]), ([10], [10]), ([8, 11], [8, 11]), ([12], [12]), ([13], [13]), ([14], [14]), ([7, 15], [7, 15]), ([], []), ([], []), ([18], [18]), ([19], [19]), ([17, 20], [17, 20]), ([21], [21]), ([22], [22]), ([23], [23]), ([16, 24], [16, 24]), ([], []), ([], []), ([27], [27]), ([28], [28]), ([26, 29], [26, 29]), ([30], [30]), ([31], [31]), ([25, 32], [25, 32]), ([33], [33]), ([0, 34], [0, 34]), ([35, 35, 0, 1, 2, 3, 4, 5, 6, 7, 8, 9, 10, 11, 12, 13, 14, 15, 16, 17, 18, 19, 20, 21, 22, 23, 24, 25, 26, 27, 28, 29, 30, 31, 32, 33, 34, 35], [0, 35])])
def spec_l2Words.B5 : List Nat := [0, 0, 0, 4, 14, 30, 62, 126, 0, 0, 512, 1536, 3840, 7936, 16128, 32512, 65534, 0, 0, 262144, 786432, 1966080, 4063232, 8257536, 16646144, 33554430, 0, 0, 134217728, 402653184, 1006632960, 2080374784, 4227858432, 8589934590, 17179869182, 34359738367, 68719476735]
theorem spec_l2Words.tab5 : rtab .any (opsOf Try.f86 5) = spec_l2Words.T5 := by kernel_rfl
theorem spec_l2Words.bits5 : waitsOk spec_l2Words.T5.2 spec_l2Words.B5 = true := by kernel_rfl
def spec_l2Words.T13 : Bool × List (List Nat × List Nat) := (true, [([], []), ([], []), ([], []), ([2], [2]), ([1, 3], [1, 3]), ([4], [4]), ([], []), ([5, 6], [5, 6]), ([], []), ([], []), ([9], [9]), ([8, 10], [8, 10]), ([11], [11]), ([7, 12], [7, 12]), ([], []), ([13, 14], [13, 14]), ([15], [15]), ([16], [16]), ([0, 17], [0, 17]), ([18, 18, 0, 1, 2, 3, 4, 5, 6, 7, 8, 9, 10, 11, 12, 13, 14, 15, 16, 17, 18], [0, 1, 8, 18])])
def spec_l2Words.B13 : List Nat := [0, 0, 0, 4, 14, 30, 0, 126, 0, 0, 512, 1792, 3840, 8190, 0, 32766, 65534, 131070, 262143, 524287]
theorem spec_l2Words.tab13 : rtab .any (opsOf Try.f86 13) = spec_l2Words.T13 := by kernel_rfl
theorem spec_l2Words.bits13 : waitsOk spec_l2Words.T13.2 spec_l2Words.B13 = true := by kernel_rfl
theorem spec_l2Words.calls (k : Nat) (A0 : Option Addr) (c0 : Nat) (l0 : List Int) (r : List Int) (w : World) (eF : Kd.C (Kd.int .u8) w A0 l0.length l0) (eI : l0.length ≤ c0) (h : spec_l2Words.f k l0 = some r) :
 Calls Try.prog 86 #[.slice A0 l0.length c0] w fun e w' => ∃ v0_ : Value, e = .returned (v0_) ∧ Kd.R (Kd.int .i64) 3 w' w.heap.size (fun _ => True) v0_ r ∧ Below w.heap.size w w' := by
 have dG := Aside0.mk eF
 have fI := Aside0.mk eI
 clear eF eI
 have HB := q_ (Below.refl w.heap.size w)
 have H := h
 clear h
 unfold spec_l2Words.f at H
 obtain ⟨dK, bK⟩ : ∃ y_ : List Int, y_ = (([] : List Int)) := ⟨_, rfl⟩
 rw [← bK] at H
 have bU := Aside0.mk bK
 clear bK
 have H' := Aside0.mk H
 clear H
 go_enter Try.func86, Try.ntmps86
 go_wp2_with (first | ((with_reducible refine gate_dst (N := 10) rfl ?_); refine Kd.R_lit (Kd.int .i64) _ 3 ?hg (N := 10) ?hd (xs := ([] : List Int)) (inner := []) (ok := fun _ => True) (okp := fun _ => True) ?hr ?hp (fun _ hk => hk) trivial (Below.refl _ _) (Nat.le_refl _) (by simp) ?_; (case hd => rfl); (case hg => rfl); (case hr => first | (go_simp; done) | (go_simp; rfl)); (case hp => exact (Reps.none _ _)); intro eZ w2 cO hb hg_ hnew_; clear hg_ hnew_; (first | rw [← bU.out] at cO | (simp only [Int.reduceToNat] at cO; rw [← bU.out] at cO)); have dD := q_ (Kd.R_lower cO (below_size (be_ HB.out))); replace HB := q_ (below_step (be_ HB.out) hb); clear hb cO))
 go_loopg [3, 4] k (fun kq v3 v4 w' => ∃ (bH : List Int) (bD : Int), v4 = .int .i64 bD ∧ Aside0 (spec_l2Words.l0 kq l0 bH bD = some r) ∧ Aside0 (kq ≤ k) ∧ Aside0 (Kd.R (Kd.int .i64) 3 w' w.heap.size (fun _ => True) v3 bH) ∧ Aside0 (Below w.heap.size w w'))
 case atStart => exact ⟨(dK), (0), rs_, H', ⟨Nat.le_refl _⟩, ⟨kr_ dD.out⟩, ⟨be_ HB.out⟩⟩
 case round =>
  clear H'
  obtain ⟨bH, bD, rfl, HA, dH, aC, HB⟩ := hrel
  cases gk with
  | zero => exact absurd HA.out (by simp [spec_l2Words.l0])
  | succ k1 =>
   have H := HA.out
   clear HA
   simp only [spec_l2Words.l0] at H
   by_cases c4 : bD < 16
   ·
    rw [if_pos c4] at H
    have eA := decide_eq_true c4
    clear c4
    obtain ⟨bE, cM⟩ : ∃ j_ : Int, (wrap64 (4 * bD)) = j_ := ⟨_, rfl⟩
    first | rw [cM] at H | simp only [cM] at H
    have eH : (IntKind.i64.wrap (4 * bD)) = bE := (i64_w _).trans cM
    obtain ⟨fC, H⟩ := id_ H
    obtain ⟨fB, H⟩ := id_ H
    obtain ⟨bR, cL⟩ : ∃ j_ : Int, (wrap64 ((bE) + 1)) = j_ := ⟨_, rfl⟩
    first | rw [cL] at H | simp only [cL] at H
    have eG : (IntKind.i64.wrap ((bE) + 1)) = bR := (i64_w _).trans cL
    obtain ⟨fA, H⟩ := id_ H
    obtain ⟨eV, H⟩ := id_ H
    obtain ⟨bA, bM⟩ : ∃ j_ : Int, (wrap64 ((bE) + 2)) = j_ := ⟨_, rfl⟩
    first | rw [bM] at H | simp only [bM] at H
    have dQ : (IntKind.i64.wrap ((bE) + 2)) = bA := (i64_w _).trans bM
    obtain ⟨eU, H⟩ := id_ H
    obtain ⟨eT, H⟩ := id_ H
    obtain ⟨aZ, bL⟩ : ∃ j_ : Int, (wrap64 ((bE) + 3)) = j_ := ⟨_, rfl⟩
    first | rw [bL] at H | simp only [bL] at H
    have dP : (IntKind.i64.wrap ((bE) + 3)) = aZ := (i64_w _).trans bL
    obtain ⟨eS, H⟩ := id_ H
    obtain ⟨eR, H⟩ := id_ H
    obtain ⟨dA, H⟩ := ia_ H
    obtain ⟨dJ, bJ⟩ : ∃ y_ : List Int, y_ = (bH ++ [Go.bits .or .i64 (Go.bits .or .i64 (Go.bits .or .i64 (wrap64 ((wrap64 (rd l0 (bE))) * 16777216)) (wrap64 ((wrap64 (rd l0 (bR))) * 65536))) (wrap64 ((wrap64 (rd l0 (bA))) * 256))) (wrap64 (rd l0 (aZ)))]) := ⟨_, rfl⟩
    rw [← bJ] at H
    have cY := Aside0.mk bJ
    clear bJ
    have H' := Aside0.mk H
    clear H
    try go_wp2
    replace aC := q_ (Kd.R_drew aC.out)
    replace HB := q_ (below_drew1 HB.out)
    have cK : 0 ≤ ((bE) : Int) := od_
    have cC : (bE) < (l0.length : Int) := od_
    obtain ⟨aW, dZ, aI⟩ := Kd.at_int dG.out (bE) cK cC
    have aN := aI
    cases dZ
    replace aI := hc_ HB.out aI
    replace cK := eq_true cK
    replace cC := eq_true cC
    have cJ : 0 ≤ ((bR) : Int) := od_
    have cB : (bR) < (l0.length : Int) := od_
    obtain ⟨cW, dY, aH⟩ := Kd.at_int dG.out (bR) cJ cB
    have aM := aH
    obtain rfl : aW = cW := (by injection dY)
    replace aH := hc_ HB.out aH
    replace cJ := eq_true cJ
    replace cB := eq_true cB
    have cI : 0 ≤ ((bA) : Int) := od_
    have cA : (bA) < (l0.length : Int) := od_
    obtain ⟨cV, dX, aG⟩ := Kd.at_int dG.out (bA) cI cA
    have aK := aG
    obtain rfl : aW = cV := (by injection dX)
    replace aG := hc_ HB.out aG
    replace cI := eq_true cI
    replace cA := eq_true cA
    have cH : 0 ≤ ((aZ) : Int) := od_
    have bZ : (aZ) < (l0.length : Int) := od_
    obtain ⟨cU, dW, aE⟩ := Kd.at_int dG.out (aZ) cH bZ
    have aJ := aE
    obtain rfl : aW = cU := (by injection dW)
    replace aE := hc_ HB.out aE
    replace cH := eq_true cH
    replace bZ := eq_true bZ
    refine sr_ (fun w' => w'.cell? (aW.add ((bE)).toNat) = some (.int .u8 (rd l0 (bE))) ∧ w'.cell? (aW.add ((bR)).toNat) = some (.int .u8 (rd l0 (bR))) ∧ w'.cell? (aW.add ((bA)).toNat) = some (.int .u8 (rd l0 (bA))) ∧ w'.cell? (aW.add ((aZ)).toNat) = some (.int .u8 (rd l0 (aZ)))) [] spec_l2Words.tab5 spec_l2Words.bits5 ⟨(hc_ HB.out aN), (hc_ HB.out aM), (hc_ HB.out aK), (hc_ HB.out aJ)⟩ (fun hD hT hW => ?_)
    generalize wr.drew = fH at aC HB aI aH aG aE hD ⊢
    refine p_ 0 15 hT ?_; refine p_ 1 16 hT ?_; refine p_ 2 17 hT ?_; refine p_ 3 18 hT ?_; refine p_ 4 19 hT ?_; refine p_ 8 23 hT ?_; refine p_ 9 24 hT ?_; refine p_ 10 25 hT ?_; refine p_ 11 26 hT ?_; refine p_ 12 27 hT ?_; refine p_ 17 32 hT ?_; refine p_ 18 33 hT ?_; refine p_ 19 34 hT ?_; refine p_ 20 35 hT ?_; refine p_ 21 36 hT ?_; refine p_ 26 41 hT ?_; refine p_ 27 42 hT ?_; refine p_ 28 43 hT ?_; refine p_ 29 44 hT ?_; refine p_ 30 45 hT ?_; refine k_ 5 20 hT hW hD ?_; refine p_ 6 21 hT ?_; refine p_ 7 22 hT ?_; refine k_ 13 28 hT hW hD ?_; refine p_ 14 29 hT ?_; refine p_ 15 30 hT ?_; refine p_ 16 31 hT ?_; refine k_ 22 37 hT hW hD ?_; refine p_ 23 38 hT ?_; refine p_ 24 39 hT ?_; refine p_ 25 40 hT ?_; refine k_ 31 46 hT hW hD ?_; refine p_ 32 47 hT ?_; refine p_ 33 48 hT ?_
    refine on_ 34 (some 49) (bq_ 35 2) hT (fun K hK => ?_)
    refine value_ (w1 := ?_) (v := ?_) (by rfl) rfl ?_ ?_
    rotate_left 2
    · go_simp
      constructor
      · rfl
      · rfl
    refine hK.out _ _ ⟨(World.cell?_alloc_lt _ _ _ (World.block_lt_of_cell? _ _ ((hc_ HB.out aN)))).trans ((hc_ HB.out aN)), (World.cell?_alloc_lt _ _ _ (World.block_lt_of_cell? _ _ ((hc_ HB.out aM)))).trans ((hc_ HB.out aM)), (World.cell?_alloc_lt _ _ _ (World.block_lt_of_cell? _ _ ((hc_ HB.out aK)))).trans ((hc_ HB.out aK)), (World.cell?_alloc_lt _ _ _ (World.block_lt_of_cell? _ _ ((hc_ HB.out aJ)))).trans ((hc_ HB.out aJ))⟩ (fun hD => ?_)
    clear hK K
    refine nm_ ?_
    refine on_ 35 (some 50) (bq_ 36 1) hT (fun K hK => ?_)
    refine Kd.R_append_step (Kd.int .i64) (w0 := w) w.heap.size (by rfl) (.tmp 15) (.tmp 49) 67 3 (.int .i64 0) 8 rfl Try.underlying67 info3 rfl (by decide) (by omega) u3 bH (Go.bits .or .i64 (Go.bits .or .i64 (Go.bits .or .i64 (wrap64 ((wrap64 (rd l0 (bE))) * 16777216)) (wrap64 ((wrap64 (rd l0 (bR))) * 65536))) (wrap64 ((wrap64 (rd l0 (bA))) * 256))) (wrap64 (rd l0 (aZ)))) [.int .i64 (Go.bits .or .i64 (Go.bits .or .i64 (Go.bits .or .i64 (wrap64 ((wrap64 (rd l0 (bE))) * 16777216)) (wrap64 ((wrap64 (rd l0 (bR))) * 65536))) (wrap64 ((wrap64 (rd l0 (bA))) * 256))) (wrap64 (rd l0 (aZ))))] (fun _ => True) (fun _ => False) rfl rfl ?aP (fun _ hk => hk.elim) ?aF ?aO ?aB ?aS ?aL ?_
    (case aP => exact rfl)
    (case aB => exact (be_ HB.out))
    (case aF => exact (fun _ _ => trivial))
    (case aO => exact (kr_ aC.out))
    (case aS => exact (below_size (be_ HB.out)))
    (case aL => have := dA.out; omega)
    intro eY fG ho hb hg hat
    rw [← cY.out] at ho
    have bT := q_ (hb)
    have bS := q_ (ho)
    clear HB
    clear aC
    have HB := bT
    have dC := bS
    clear bT bS
    clear ho hb hg hat
    refine hK.out _ _ ⟨(hc_ HB.out aN), (hc_ HB.out aM), (hc_ HB.out aK), (hc_ HB.out aJ)⟩ (fun hD => ?_)
    clear hK K
    refine nm_ ?_
    refine p_ 36 3 hT ?_
    refine done_ (done_of hT.out (by kernel_rfl)) ?_
    try go_wp2
    go_roundg k1
    case measure => have := dH.out; omega
    case rel => exact ⟨(dJ), (wrap64 (bD + 1)), rs_, H', ⟨by have := dH.out; omega⟩, ⟨kr_ dC.out⟩, ⟨be_ HB.out⟩⟩
   ·
    rw [if_neg c4] at H
    have eA := decide_eq_false c4
    clear c4
    have H' := Aside0.mk H
    clear H
    go_wp2
    go_loopg [3, 5] k1 (fun kq v3 v5 w' => ∃ (aA : List Int) (aD : Int), v5 = .int .i64 aD ∧ Aside0 (spec_l2Words.l1 kq aA aD = some r) ∧ Aside0 (kq ≤ k1) ∧ Aside0 (Kd.R (Kd.int .i64) 3 w' w.heap.size (fun _ => True) v3 aA) ∧ Aside0 (Below w.heap.size w w'))
    case atStart => exact ⟨(bH), (16), rs_, H', ⟨Nat.le_refl _⟩, ⟨kr_ aC.out⟩, ⟨be_ HB.out⟩⟩
    case round =>
     clear H'
     obtain ⟨aA, aD, rfl, HA, eW, aC, HB⟩ := hrel
     cases gk with
     | zero => exact absurd HA.out (by simp [spec_l2Words.l1])
     | succ k2 =>
      have H := HA.out
      clear HA
      simp only [spec_l2Words.l1] at H
      by_cases cN : aD < 64
      ·
       rw [if_pos cN] at H
       have cQ := decide_eq_true cN
       clear cN
       obtain ⟨aR, bC⟩ : ∃ j_ : Int, (wrap64 (aD - 15)) = j_ := ⟨_, rfl⟩
       first | rw [bC] at H | simp only [bC] at H
       have dO : (IntKind.i64.wrap (aD - 15)) = aR := (i64_w _).trans bC
       obtain ⟨eQ, H⟩ := id_ H
       obtain ⟨eP, H⟩ := id_ H
       obtain ⟨aQ, bB⟩ : ∃ j_ : Int, (wrap64 (aD - 2)) = j_ := ⟨_, rfl⟩
       first | rw [bB] at H | simp only [bB] at H
       have dN : (IntKind.i64.wrap (aD - 2)) = aQ := (i64_w _).trans bB
       obtain ⟨eO, H⟩ := id_ H
       obtain ⟨eN, H⟩ := id_ H
       obtain ⟨bQ, eE, H⟩ := bo_ H
       obtain ⟨bP, eD, H⟩ := bo_ H
       obtain ⟨bO, eC, H⟩ := bo_ H
       obtain ⟨bN, eB, H⟩ := bo_ H
       obtain ⟨aY, aU⟩ : ∃ j_ : Int, (wrap64 (aD - 16)) = j_ := ⟨_, rfl⟩
       first | rw [aU] at H | simp only [aU] at H
       (try rw [aU] at eE)
       (try rw [aU] at eD)
       (try rw [aU] at eC)
       (try rw [aU] at eB)
       have dM : (IntKind.i64.wrap (aD - 16)) = aY := (i64_w _).trans aU
       obtain ⟨eM, H⟩ := id_ H
       obtain ⟨eL, H⟩ := id_ H
       obtain ⟨aX, aT⟩ : ∃ j_ : Int, (wrap64 (aD - 7)) = j_ := ⟨_, rfl⟩
       first | rw [aT] at H | simp only [aT] at H
       (try rw [aT] at eE)
       (try rw [aT] at eD)
       (try rw [aT] at eC)
       (try rw [aT] at eB)
       have dL : (IntKind.i64.wrap (aD - 7)) = aX := (i64_w _).trans aT
       obtain ⟨eK, H⟩ := id_ H
       obtain ⟨eJ, H⟩ := id_ H
       obtain ⟨cZ, H⟩ := ia_ H
       obtain ⟨dI, bI⟩ : ∃ y_ : List Int, y_ = (aA ++ [Go.bits .and .i64 (wrap64 ((wrap64 ((wrap64 ((rd aA (aY)) + (Go.bits .xor .i64 (Go.bits .xor .i64 bQ bP) ((rd aA (aR)) / 8)))) + (rd aA (aX)))) + (Go.bits .xor .i64 (Go.bits .xor .i64 bO bN) ((rd aA (aQ)) / 1024)))) 4294967295]) := ⟨_, rfl⟩
       rw [← bI] at H
       have cX := Aside0.mk bI
       clear bI
       have H' := Aside0.mk H
       clear H
       obtain ⟨fD, cP, dR⟩ := Kd.R_slice aC.out
       subst dR
       have cG : 0 ≤ ((aR) : Int) := od_
       have bY : (aR) < (aA.length : Int) := od_
       obtain ⟨aV, dV, dF⟩ := Kd.at_int (Kd.R_reads' aC.out).2.2 (aR) cG bY
       cases dV
       replace cG := eq_true cG
       replace bY := eq_true bY
       have cF : 0 ≤ ((aQ) : Int) := od_
       have bX : (aQ) < (aA.length : Int) := od_
       obtain ⟨cT, dU, dE⟩ := Kd.at_int (Kd.R_reads' aC.out).2.2 (aQ) cF bX
       obtain rfl : aV = cT := (by injection dU)
       replace cF := eq_true cF
       replace bX := eq_true bX
       try go_wp2_with (first | ((with_reducible refine gate_callee (f := 87) rfl ?_); refine gl_ (some 66) Try.func87 #[.int .i64 (rd aA (aR)), .int .i64 7] rfl (by (try simp only [List.map_toArray, List.map_cons, List.map_nil]); first | done | (simp only [bC]; rfl) | rfl | (simp only [List.length_drop, List.length_take]; rfl)) ?_; (with_reducible refine (spec_l2Turn.calls (rd aA (aR)) 7 bQ _ eE.out).mono ?_); rintro e w' ⟨rfl, ⟨nd, rfl⟩⟩; refine ⟨_, rfl, ?_⟩) | ((with_reducible refine gate_callee (f := 87) rfl ?_); refine gl_ (some 68) Try.func87 #[.int .i64 (rd aA (aR)), .int .i64 18] rfl (by (try simp only [List.map_toArray, List.map_cons, List.map_nil]); first | done | (simp only [bC]; rfl) | rfl | (simp only [List.length_drop, List.length_take]; rfl)) ?_; (with_reducible refine (spec_l2Turn.calls (rd aA (aR)) 18 bP _ eD.out).mono ?_); rintro e w' ⟨rfl, ⟨nd, rfl⟩⟩; refine ⟨_, rfl, ?_⟩) | ((with_reducible refine gate_callee (f := 87) rfl ?_); refine gl_ (some 74) Try.func87 #[.int .i64 (rd aA (aQ)), .int .i64 17] rfl (by (try simp only [List.map_toArray, List.map_cons, List.map_nil]); first | done | (simp only [bB]; rfl) | rfl | (simp only [List.length_drop, List.length_take]; rfl)) ?_; (with_reducible refine (spec_l2Turn.calls (rd aA (aQ)) 17 bO _ eC.out).mono ?_); rintro e w' ⟨rfl, ⟨nd, rfl⟩⟩; refine ⟨_, rfl, ?_⟩) | ((with_reducible refine gate_callee (f := 87) rfl ?_); refine gl_ (some 76) Try.func87 #[.int .i64 (rd aA (aQ)), .int .i64 19] rfl (by (try simp only [List.map_toArray, List.map_cons, List.map_nil]); first | done | (simp only [bB]; rfl) | rfl | (simp only [List.length_drop, List.length_take]; rfl)) ?_; (with_reducible refine (spec_l2Turn.calls (rd aA (aQ)) 19 bN _ eB.out).mono ?_); rintro e w' ⟨rfl, ⟨nd, rfl⟩⟩; refine ⟨_, rfl, ?_⟩))
       (try (rw [drewN_self wr]; generalize hq_ : World.drewN wr _ = wr; have bT : Aside0 (Kd.R (Kd.int .i64) 3 wr w.heap.size (fun _ => True) (.slice (some aV) aA.length cP) aA) := ⟨by rw [← hq_]; exact (kr_ aC.out)⟩; have bS : Aside0 (Below w.heap.size w wr) := ⟨by rw [← hq_]; exact (be_ HB.out)⟩; clear aC HB hq_; have aC := bT; have HB := bS; clear bT bS))
       replace aC := q_ (Kd.R_drew aC.out)
       replace HB := q_ (below_drew1 HB.out)
       have cE : 0 ≤ ((aY) : Int) := od_
       have bW : (aY) < (aA.length : Int) := od_
       obtain ⟨cS, dT, bG⟩ := Kd.at_int (Kd.R_reads' aC.out).2.2 (aY) cE bW
       obtain rfl : aV = cS := (by injection dT)
       replace cE := eq_true cE
       replace bW := eq_true bW
       have cD : 0 ≤ ((aX) : Int) := od_
       have bV : (aX) < (aA.length : Int) := od_
       obtain ⟨cR, dS, bF⟩ := Kd.at_int (Kd.R_reads' aC.out).2.2 (aX) cD bV
       obtain rfl : aV = cR := (by injection dS)
       replace cD := eq_true cD
       replace bV := eq_true bV
       refine sr_ (fun w' => w'.cell? (aV.add ((aY)).toNat) = some (.int .i64 (rd aA (aY))) ∧ w'.cell? (aV.add ((aX)).toNat) = some (.int .i64 (rd aA (aX)))) [17, 18] spec_l2Words.tab13 spec_l2Words.bits13 ⟨bG, bF⟩ (fun hD hT hW => ?_)
       generalize wr.drew = fF at aC HB bG bF hD ⊢
       refine p_ 0 81 hT ?_; refine p_ 1 82 hT ?_; refine p_ 2 83 hT ?_; refine p_ 3 84 hT ?_; refine p_ 4 85 hT ?_; refine p_ 6 87 hT ?_; refine p_ 8 89 hT ?_; refine p_ 9 90 hT ?_; refine p_ 10 91 hT ?_; refine p_ 11 92 hT ?_; refine p_ 14 95 hT ?_; refine k_ 5 86 hT hW hD ?_; refine p_ 7 88 hT ?_; refine k_ 12 93 hT hW hD ?_; refine p_ 13 94 hT ?_; refine p_ 15 96 hT ?_; refine p_ 16 97 hT ?_
       refine last_ (i := 17) (N := some 98) (bq_ 18 2) rfl rfl (one_of hT.out (by kernel_rfl)) (by decide) (fun K hK => ?_)
       refine value_ (w1 := ?_) (v := ?_) (by rfl) rfl ?_ ?_
       rotate_left 2
       · go_simp
         constructor
         · rfl
         · rfl
       refine hK.out _ _ ?_
       clear hK K
       refine nm_ ?_
       refine last_ (i := 18) (N := some 99) (bq_ 19 1) rfl rfl (one_of hT.out (by kernel_rfl)) (by decide) (fun K hK => ?_)
       refine Kd.R_append_step (Kd.int .i64) (w0 := w) w.heap.size (by rfl) (.tmp 81) (.tmp 98) 67 3 (.int .i64 0) 8 rfl Try.underlying67 info3 rfl (by decide) (by omega) (.slice (some aV) aA.length cP) aA (Go.bits .and .i64 (wrap64 ((wrap64 ((wrap64 ((rd aA (aY)) + (Go.bits .xor .i64 (Go.bits .xor .i64 bQ bP) ((rd aA (aR)) / 8)))) + (rd aA (aX)))) + (Go.bits .xor .i64 (Go.bits .xor .i64 bO bN) ((rd aA (aQ)) / 1024)))) 4294967295) [.int .i64 (Go.bits .and .i64 (wrap64 ((wrap64 ((wrap64 ((rd aA (aY)) + (Go.bits .xor .i64 (Go.bits .xor .i64 bQ bP) ((rd aA (aR)) / 8)))) + (rd aA (aX)))) + (Go.bits .xor .i64 (Go.bits .xor .i64 bO bN) ((rd aA (aQ)) / 1024)))) 4294967295)] (fun _ => True) (fun _ => False) rfl rfl ?aP (fun _ hk => hk.elim) ?aF ?aO ?aB ?aS ?aL ?_
       (case aP => exact rfl)
       (case aB => exact (be_ HB.out))
       (case aF => exact (fun _ _ => trivial))
       (case aO => exact (kr_ aC.out))
       (case aS => exact (below_size (be_ HB.out)))
       (case aL => have := cZ.out; omega)
       intro eX fE ho hb hg hat
       rw [← cX.out] at ho
       have bT := q_ (hb)
       have bS := q_ (ho)
       clear HB
       clear aC
       have HB := bT
       have dB := bS
       clear bT bS
       clear ho hb hg hat
       refine hK.out _ _ ?_
       clear hK K
       refine nm_ ?_
       refine p_ 19 3 hT ?_
       refine done_ (done_of hT.out (by kernel_rfl)) ?_
       try go_wp2
       go_roundg k2
       case measure => have := dH.out; have := eW.out; omega
       case rel => exact ⟨(dI), (wrap64 (aD + 1)), rs_, H', ⟨by have := dH.out; have := eW.out; omega⟩, ⟨kr_ dB.out⟩, ⟨be_ HB.out⟩⟩
      · rw [if_neg cN] at H
        have cQ := decide_eq_false cN
        clear cN
        obtain rfl := Option.some.inj H
        go_wp2
        go_ret
        exact ⟨_, rf_, kr_ aC.out, be_ HB.out⟩
end
end Go.Proofs.Ytgmfhchhbidlnaa.P