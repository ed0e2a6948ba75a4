-- Written by wip/xp/xp.py over the kit's print; Lean checks it.
import Derived.Test.YtbelaenekbflfaaPx0
import Derived.Test.YtbelaenekbflfaaPx8
import Derived.Test.YtbelaenekbflfaaPx9
import Derived.Test.YtbelaenekbflfaaPx11
namespace Go.Proofs.Ytbelaenekbflfaa.P
open Go.RowKit Go.Proofs.YtbelaenekbflfaaW.PrintWords Go.Proofs.YtbelaenekbflfaaW.PrintLast Go.Proofs.YtbelaenekbflfaaW.PrintMore
attribute [local go_sem] max2_int min2_int max_two min_two max_three min_three max_four min_four   -- for this text's walks alone
set_option linter.unusedVariables false
set_option linter.unusedSimpArgs false

/-! ###  spec_Digest: function 34 -/
mutual
def spec_Digest.l0 : Nat → List Int → List Int → List Int → Int → Option (ByteArray)
  | 0, _, _, _, _ => none
  | k + 1, x3, x4, x5, x6 => if x6 < (x3.length : Int) then (if 0 ≤ x6 then (if x6 ≤ (wrap64 (x6 + 64)) then (if (wrap64 (x6 + 64)) ≤ (x3.length : Int) then ((spec_l2Block.f k x4 ((x3.take ((wrap64 (x6 + 64)) : Int).toNat).drop (x6 : Int).toNat) x5).bind fun t285 => (spec_Digest.l0 k x3 t285 x5 (wrap64 (x6 + 64)))) else (none)) else (none)) else (none)) else (spec_Digest.l1 k x4 (([] : List Int)) 0)
def spec_Digest.l1 : Nat → List Int → List Int → Int → Option (ByteArray)
  | 0, _, _, _ => none
  | k + 1, x4, x7, x8 => if x8 < 8 then (if 0 ≤ x8 then (if x8 < (x4.length : Int) then ((some (([((rd x4 x8) / 16777216) % 256, ((rd x4 x8) / 65536) % 256, ((rd x4 x8) / 256) % 256, (rd x4 x8) % 256] : List Int) : List Int)).bind fun y295 => (if x7.length + y295.length < 140737488355328 then (spec_Digest.l1 k x4 (x7 ++ y295) (wrap64 (x8 + 1))) else (none))) else (none)) else (none)) else (some (strOfNums x7))
end
def spec_Digest.f (k : Nat) (l0 : List Int) : Option (ByteArray) := (spec_Padded.f k l0).bind fun t272 => ((spec_l2K.f).bind fun t278 => (spec_Digest.l0 k t272 (([1779033703, 3144134277, 1013904242, 2773480762, 1359893119, 2600822924, 528734635, 1541459225] : List Int)) t278 0))
def spec_Digest.T12 : Bool × List (List Nat × List Nat) := (true, [([], []), ([], []), ([], []), ([1, 2], [1, 2]), ([3], [3]), ([4], [4]), ([5], [5]), ([], []), ([], []), ([7, 8], [7, 8]), ([9], [9]), ([10], [10]), ([11], [11]), ([], []), ([], []), ([13, 14], [13, 14]), ([15], [15]), ([16], [16]), ([17], [17]), ([], []), ([], []), ([19, 20], [19, 20]), ([21], [21]), ([22], [22]), ([6, 12, 18, 23], [6, 12, 18, 23]), ([0, 24], [0, 24]), ([25, 25, 0, 1, 2, 3, 4, 5, 6, 7, 8, 9, 10, 11, 12, 13, 14, 15, 16, 17, 18, 19, 20, 21, 22, 23, 24, 25], [0, 25])])
def spec_Digest.B12 : List Nat := [0, 0, 0, 6, 14, 30, 62, 0, 0, 384, 896, 1920, 3968, 0, 0, 24576, 57344, 122880, 253952, 0, 0, 1572864, 3670016, 7864320, 16777214, 33554431, 67108863]
theorem spec_Digest.tab12 : rtab .any (opsOf Try.f34 12) = spec_Digest.T12 := by kernel_rfl
theorem spec_Digest.bits12 : waitsOk spec_Digest.T12.2 spec_Digest.B12 = true := by kernel_rfl
set_option maxHeartbeats 8000000 in
set_option maxRecDepth 100000 in
theorem spec_Digest.calls (k : Nat) (A0 : Option Addr) (c0 : Nat) (l0 : List Int) (r : ByteArray) (w : World) (hr0 : Kd.C (Kd.int .u8) w A0 l0.length l0) (hc0 : l0.length ≤ c0) (h : spec_Digest.f k l0 = some r) :
  Calls Try.prog 34 #[.slice A0 l0.length c0] w fun e w' => e = .returned (.string r) ∧ Below w.heap.size w w' := by
  have HR0 := Aside0.mk hr0
  have HC0 := Aside0.mk hc0
  clear hr0 hc0
  have HB := Aside0.mk (Below.refl w.heap.size w)
  have H : ((spec_Padded.f k l0).bind fun t272 => ((spec_l2K.f).bind fun t278 => (spec_Digest.l0 k t272 (([1779033703, 3144134277, 1013904242, 2773480762, 1359893119, 2600822924, 528734635, 1541459225] : List Int)) t278 0))) = some r := h
  clear h
  replace H := Option.bind_eq_some_iff.mp H
  obtain ⟨t272, A20, H⟩ := H
  have A2 := Aside0.mk A20
  clear A20
  obtain ⟨y275, hy275⟩ : ∃ y_ : List Int, y_ = (([1779033703, 3144134277, 1013904242, 2773480762, 1359893119, 2600822924, 528734635, 1541459225] : List Int)) := ⟨_, rfl⟩
  replace H : ((spec_l2K.f).bind fun t278 => (spec_Digest.l0 k t272 y275 t278 0)) = some r := by first | (rw [hy275]; with_reducible exact H) | (have H2_ := (Option.bind_some _ _).symm.trans H; rw [hy275]; with_reducible exact H2_) | (have H2_ := (Option.bind_some _ _).symm.trans H; with_reducible exact H2_) | with_reducible exact H | (rw [hy275]; exact H) | exact H
  have Ny275 := Aside0.mk hy275
  clear hy275
  replace H := Option.bind_eq_some_iff.mp H
  obtain ⟨t278, A30, H⟩ := H
  have A3 := Aside0.mk A30
  clear A30
  have H' := Aside0.mk H
  clear H
  go_enter Try.func34, Try.ntmps34
  go_wp2_with (first | ((with_reducible refine gate_callee (f := 64) rfl ?_); refine goesL_ (some 10) rfl rfl Try.func64 (by kernel_rfl) rfl #[.slice A0 l0.length c0] rfl al_ ?_; (with_reducible refine (spec_Padded.calls k _ _ l0 t272 _ ?side1 ?side2 A2.out).mono ?_); (case side1 => exact kc_ HR0.out); (case side2 => exact HC0.out); rintro e w4 ⟨v273, rfl, ho0, hb⟩; refine ⟨_, rfl, ?_⟩; have n0_ := Aside0.mk (Kd.R_lower ho0 (below_size (be_ HB.out))); have n1_ := Aside0.mk (below_step (be_ HB.out) hb); clear HB; have HO274 := n0_; have HB := n1_; clear n0_ n1_; (try clear hb); (try clear hb2); (try clear hk); (try clear hi); (try clear ho0)) | ((with_reducible refine gate_dst (N := 11) rfl ?_); refine Kd.R_lit (Kd.int .i64) _ 3 ?hg (N := 11) ?hd (xs := ([1779033703, 3144134277, 1013904242, 2773480762, 1359893119, 2600822924, 528734635, 1541459225] : List Int)) (inner := [.int .i64 1779033703, .int .i64 3144134277, .int .i64 1013904242, .int .i64 2773480762, .int .i64 1359893119, .int .i64 2600822924, .int .i64 528734635, .int .i64 1541459225]) (ok := fun _ => True) (okp := fun _ => True) ?hr ?hp (fun _ hk => hk) trivial (Below.refl _ _) (Nat.le_refl _) (by simp) ?_; (case hd => rfl); (case hg => rfl); (case hr => first | (go_simp; done) | (go_simp; rfl)); (case hp => exact (Reps.one (show Kd.M (Kd.int .i64) _ _ _ 1779033703 [.int .i64 1779033703] from rfl) (Reps.one (show Kd.M (Kd.int .i64) _ _ _ 3144134277 [.int .i64 3144134277] from rfl) (Reps.one (show Kd.M (Kd.int .i64) _ _ _ 1013904242 [.int .i64 1013904242] from rfl) (Reps.one (show Kd.M (Kd.int .i64) _ _ _ 2773480762 [.int .i64 2773480762] from rfl) (Reps.one (show Kd.M (Kd.int .i64) _ _ _ 1359893119 [.int .i64 1359893119] from rfl) (Reps.one (show Kd.M (Kd.int .i64) _ _ _ 2600822924 [.int .i64 2600822924] from rfl) (Reps.one (show Kd.M (Kd.int .i64) _ _ _ 528734635 [.int .i64 528734635] from rfl) (Reps.one (show Kd.M (Kd.int .i64) _ _ _ 1541459225 [.int .i64 1541459225] from rfl) (Reps.none _ _)))))))))); intro v276 w5 ho6 hb hg_ hnew_; clear hg_ hnew_; (first | rw [← Ny275.out] at ho6 | (simp only [Int.reduceToNat] at ho6; rw [← Ny275.out] at ho6)); have n0_ := Aside0.mk (Kd.R_below (kr_ HO274.out) hb); have n1_ := Aside0.mk (Kd.R_lower ho6 (below_size (be_ HB.out))); have n2_ := Aside0.mk (below_step (be_ HB.out) hb); clear HO274; clear HB; have HO274 := n0_; have HO277 := n1_; have HB := n2_; clear n0_ n1_ n2_; clear hb ho6) | ((with_reducible refine gate_callee (f := 65) rfl ?_); refine goesL_ (some 12) rfl rfl Try.func65 (by kernel_rfl) rfl #[] rfl al_ ?_; (with_reducible refine (spec_l2K.calls  t278 _ A3.out).mono ?_); rintro e w7 ⟨v279, rfl, ho0, hb⟩; refine ⟨_, rfl, ?_⟩; have n0_ := Aside0.mk (Kd.R_below (kr_ HO274.out) hb); have n1_ := Aside0.mk (Kd.R_elder' (kr_ HO277.out) (Kd.R_base ho0) hb); have n2_ := Aside0.mk (Kd.R_lower (Kd.R_new' ho0 (Kd.R_lt (kr_ HO277.out))) (below_size (be_ HB.out))); have n3_ := Aside0.mk (below_step (be_ HB.out) hb); clear HO274; clear HO277; clear HB; have HO274 := n0_; have HO277 := n1_; have HO280 := n2_; have HB := n3_; clear n0_ n1_ n2_ n3_; (try clear hb); (try clear hb2); (try clear hk); (try clear hi); (try clear ho0)))
  go_loopg [4, 6] k (fun kq v4 v6 w' => ∃ (x4_1 : List Int) (x6_1 : Int), v6 = .int .i64 x6_1 ∧ Aside0 (spec_Digest.l0 kq t272 x4_1 t278 x6_1 = some r) ∧ Aside0 (kq ≤ k) ∧ Aside0 (Kd.R (Kd.int .u8) 5 w' w.heap.size (fun _ => True) v273 t272) ∧ Aside0 (Kd.R (Kd.int .i64) 3 w' w.heap.size (fun k_ => some k_ ≠ (v279 : Value).ownBlock) v4 x4_1) ∧ Aside0 (Kd.R (Kd.int .i64) 3 w' w.heap.size (fun k_ => some k_ ≠ (v4 : Value).ownBlock) v279 t278) ∧ Aside0 (Below w.heap.size w w'))
  case atStart => exact ⟨(y275), (0), (by first | rfl | (simp; done) | (simp [*]; done)), H', ⟨Nat.le_refl _⟩, ⟨by (with_reducible repeat (first | apply Kd.R_alloc | apply Kd.R_drewN | apply Kd.R_drew)); exact HO274.out⟩, ⟨by (with_reducible repeat (first | apply Kd.R_alloc | apply Kd.R_drewN | apply Kd.R_drew)); exact Kd.R_mono HO277.out (fun _ hk => hk.2)⟩, ⟨by (with_reducible repeat (first | apply Kd.R_alloc | apply Kd.R_drewN | apply Kd.R_drew)); exact Kd.R_mono HO280.out (fun _ hk => hk.2)⟩, ⟨be_ HB.out⟩⟩
  case round =>
   clear H'
   try clear p2
   try clear c3
   try clear c6
   obtain ⟨x4_1, x6_1, rfl, HA, HK1, HO_3, HO_4, HO_5, HB⟩ := hrel
   cases gk with
   | zero => exact absurd HA.out (by simp [spec_Digest.l0])
   | succ k1 =>
    have H := HA.out
    clear HA
    simp only [spec_Digest.l0] at H
    by_cases c8 : x6_1 < (t272.length : Int)
    · rw [if_pos c8] at H
      have c8b0 : decide (x6_1 < (t272.length : Int)) = true := decide_eq_true c8
      clear c8
      by_cases c9 : 0 ≤ x6_1
      rotate_left
      · rw [if_neg c9] at H; exact absurd H (by simp)
      rw [if_pos c9] at H
      have c9b0 := eq_true c9
      have c9b1 : decide (0 ≤ x6_1) = true := decide_eq_true c9
      clear c9
      by_cases c10 : x6_1 ≤ (wrap64 (x6_1 + 64))
      rotate_left
      · rw [if_neg c10] at H; exact absurd H (by simp)
      rw [if_pos c10] at H
      have c10b0 := eq_true c10
      have c10b1 : decide (x6_1 ≤ (wrap64 (x6_1 + 64))) = true := decide_eq_true c10
      by_cases c11 : (wrap64 (x6_1 + 64)) ≤ (t272.length : Int)
      rotate_left
      · rw [if_neg c11] at H; exact absurd H (by simp)
      rw [if_pos c11] at H
      have c11b0 := eq_true c11
      have c11b1 : decide ((wrap64 (x6_1 + 64)) ≤ (t272.length : Int)) = true := decide_eq_true c11
      obtain ⟨y281, hy281⟩ : ∃ y_ : List Int, y_ = ((t272.take ((wrap64 (x6_1 + 64)) : Int).toNat).drop (x6_1 : Int).toNat) := ⟨_, rfl⟩
      replace H : ((spec_l2Block.f k1 x4_1 y281 t278).bind fun t285 => (spec_Digest.l0 k1 t272 t285 t278 (wrap64 (x6_1 + 64)))) = some r := by first | (rw [hy281]; with_reducible exact H) | (have H2_ := (Option.bind_some _ _).symm.trans H; rw [hy281]; with_reducible exact H2_) | (have H2_ := (Option.bind_some _ _).symm.trans H; with_reducible exact H2_) | with_reducible exact H | (rw [hy281]; exact H) | exact H
      have Ny281 := Aside0.mk hy281
      clear hy281
      replace H := Option.bind_eq_some_iff.mp H
      obtain ⟨t285, A120, H⟩ := H
      have A12 := Aside0.mk A120
      clear A120
      have H' := Aside0.mk H
      clear H
      obtain ⟨Ao13, co13, eo13⟩ := Kd.R_slice HO_3.out
      subst eo13
      have q14 : ((wrap64 (x6_1 + 64)) : Int) ≤ ((t272.length : Int) : Int) := of_decide_eq_true (by first | (with_reducible assumption) | assumption)
      obtain ⟨i014, hi014, _, hsz14, _⟩ := info_parts info5
      have hroom14 : t272.length ≤ co13 := (Kd.R_reads' HO_3.out).2.1
      have hC14 : Kd.C (Kd.int .u8) _ Ao13 t272.length t272 := (Kd.R_reads' HO_3.out).2.2
      have ql14 : (x6_1 : Int) ≤ ((wrap64 (x6_1 + 64)) : Int) := of_decide_eq_true (by first | (with_reducible assumption) | assumption)
      have q014 : (0 : Int) ≤ (x6_1 : Int) := of_decide_eq_true (by first | (with_reducible assumption) | assumption)
      have hcut14 := cut_mid (P := Try.prog) 24 5 .i64 .i64 Try.underlying24 hi014 1 hsz14 Ao13 t272.length co13 x6_1 (wrap64 (x6_1 + 64)) q014 ql14 q14 hroom14
      have hr14 := Kd.C_mid (lo := (x6_1 : Int).toNat) (hi := ((wrap64 (x6_1 + 64)) : Int).toNat) (c := co13) hC14 (by omega) (by omega) hroom14
      obtain ⟨A14, hA14⟩ : ∃ A1, A1 = (if co13 = (x6_1 : Int).toNat then Ao13 else (Ao13 : Option Addr).map (·.add ((x6_1 : Int).toNat * 1))) := ⟨_, rfl⟩
      obtain ⟨c14, hc14⟩ : ∃ c1, c1 = co13 - (x6_1 : Int).toNat := ⟨_, rfl⟩
      have hy14 : y281.length = ((wrap64 (x6_1 + 64)) : Int).toNat - (x6_1 : Int).toNat := (by rw [Ny281.out, List.length_drop, List.length_take] <;> omega)
      rw [show ((t272).take ((wrap64 (x6_1 + 64)) : Int).toNat).drop (x6_1 : Int).toNat = y281 from Ny281.out.symm] at hr14
      replace hr14 : Kd.C (Kd.int .u8) _ A14 y281.length y281 := (by rw [hA14]; exact hr14)
      rw [← hy14, ← hA14, ← hc14] at hcut14
      have HR284 := Aside0.mk hr14
      have HC284 := Aside0.mk (show y281.length ≤ c14 from by rw [hy14, hc14]; exact Nat.sub_le_sub_right (Nat.le_trans (by omega) hroom14) _)
      clear hr14 hC14 hroom14 hi014 hsz14 hc14
      have KY14 := Aside0.mk hy14
      have KA14 := Aside0.mk hA14
      clear hy14 hA14
      have KL14 := Aside0.mk (show ((wrap64 (x6_1 + 64)) : Int).toNat ≤ t272.length from by omega)
      have KM14 := Aside0.mk (show (x6_1 : Int).toNat ≤ ((wrap64 (x6_1 + 64)) : Int).toNat from by omega)
      replace q14 := eq_true q14
      obtain ⟨Ao15, co15, eo15⟩ := Kd.R_slice HO_4.out
      subst eo15
      obtain ⟨Ao16, co16, eo16⟩ := Kd.R_slice HO_5.out
      subst eo16
      go_wp2_with (first | ((with_reducible refine gate_callee (f := 66) rfl ?_); refine goesL_ (some 26) rfl rfl Try.func66 (by kernel_rfl) rfl #[.slice Ao15 x4_1.length co15, .slice A14 y281.length c14, .slice Ao16 t278.length co16] rfl al_ ?_; (with_reducible refine (spec_l2Block.calls k1 _ _ x4_1 _ _ y281 _ _ t278 t285 _ ?side1 ?side2 ?side3 ?side4 ?side5 ?side6 A12.out).mono ?_); (case side1 => exact kc_ (Kd.R_reads' HO_4.out).2.2); (case side2 => exact (Kd.R_reads' HO_4.out).2.1); (case side3 => repeat (first | exact (by repeat (first | (with_reducible exact HR284.out) | (with_reducible refine Kd.C_alloc ?_ _) | (with_reducible refine Kd.C_drewN ?_ _) | (with_reducible refine Kd.C_drew ?_) | exact HR284.out)) | (with_reducible refine Kd.C_alloc ?_ _) | (with_reducible refine Kd.C_drewN ?_ _) | (with_reducible refine Kd.C_drew ?_))); (case side4 => exact HC284.out); (case side5 => exact kc_ (Kd.R_reads' HO_5.out).2.2); (case side6 => exact (Kd.R_reads' HO_5.out).2.1); rintro e w17 ⟨v286, rfl, ho0, hb⟩; refine ⟨_, rfl, ?_⟩; have n0_ := Aside0.mk (Kd.R_below (kr_ HO_3.out) hb); have n1_ := Aside0.mk (Kd.R_elder' (kr_ HO_4.out) (Kd.R_base ho0) hb); have n2_ := Aside0.mk (Kd.R_elder' (kr_ HO_5.out) (Kd.R_base ho0) hb); have n3_ := Aside0.mk (Kd.R_lower (Kd.R_new' (Kd.R_new' ho0 (Kd.R_lt (kr_ HO_4.out))) (Kd.R_lt (kr_ HO_5.out))) (below_size (be_ HB.out))); have n4_ := Aside0.mk (Kd.C_below (by repeat (first | (with_reducible exact HR284.out) | (with_reducible refine Kd.C_alloc ?_ _) | (with_reducible refine Kd.C_drewN ?_ _) | (with_reducible refine Kd.C_drew ?_) | exact HR284.out)) hb); have n5_ := Aside0.mk (below_step (be_ HB.out) hb); clear HO_3; clear HO_4; clear HO_5; clear HR284; clear HB; have HO_3 := n0_; have HO_4 := n1_; have HO_5 := n2_; have HO287 := n3_; have HR284 := n4_; have HB := n5_; clear n0_ n1_ n2_ n3_ n4_ n5_; (try clear hb); (try clear hb2); (try clear hk); (try clear hi); (try clear ho0)))
      go_roundg k1
      case measure => have := HK1.out; omega
      case rel => exact ⟨(t285), (wrap64 (x6_1 + 64)), (by first | rfl | (simp; done) | (simp [*]; done)), H', ⟨by have := HK1.out; omega⟩, ⟨by (with_reducible repeat (first | apply Kd.R_alloc | apply Kd.R_drewN | apply Kd.R_drew)); exact HO_3.out⟩, ⟨by (with_reducible repeat (first | apply Kd.R_alloc | apply Kd.R_drewN | apply Kd.R_drew)); exact Kd.R_mono HO287.out (fun _ hk => hk.2)⟩, ⟨by (with_reducible repeat (first | apply Kd.R_alloc | apply Kd.R_drewN | apply Kd.R_drew)); exact Kd.R_mono HO_5.out (fun _ hk => hk.2)⟩, ⟨be_ HB.out⟩⟩
    · rw [if_neg c8] at H
      have c8b0 : decide (x6_1 < (t272.length : Int)) = false := decide_eq_false c8
      clear c8
      obtain ⟨y288, hy288⟩ : ∃ y_ : List Int, y_ = (([] : List Int)) := ⟨_, rfl⟩
      replace H : (spec_Digest.l1 k1 x4_1 y288 0) = some r := by first | (rw [hy288]; with_reducible exact H) | (have H2_ := (Option.bind_some _ _).symm.trans H; rw [hy288]; with_reducible exact H2_) | (have H2_ := (Option.bind_some _ _).symm.trans H; with_reducible exact H2_) | with_reducible exact H | (rw [hy288]; exact H) | exact H
      have Ny288 := Aside0.mk hy288
      clear hy288
      have H' := Aside0.mk H
      clear H
      obtain ⟨Ao18, co18, eo18⟩ := Kd.R_slice HO_3.out
      subst eo18
      go_wp2_with (first | ((with_reducible refine gate_dst (N := 27) rfl ?_); refine Kd.R_lit (Kd.int .u8) _ 5 ?hg (N := 27) ?hd (xs := ([] : List Int)) (inner := []) (ok := fun _ => True) (okp := fun _ => True) ?hr ?hp (fun _ hk => hk) trivial (Below.refl _ _) (Nat.le_refl _) (by simp) ?_; (case hd => rfl); (case hg => rfl); (case hr => first | (go_simp; done) | (go_simp; rfl)); (case hp => exact (Reps.none _ _)); intro v289 w19 ho20 hb hg_ hnew_; clear hg_ hnew_; (first | rw [← Ny288.out] at ho20 | (simp only [Int.reduceToNat] at ho20; rw [← Ny288.out] at ho20)); have n0_ := Aside0.mk (Kd.R_elder' (kr_ HO_3.out) (Kd.R_base ho20) hb); have n1_ := Aside0.mk (Kd.R_below (kr_ HO_4.out) hb); have n2_ := Aside0.mk (Kd.R_below (kr_ HO_5.out) hb); have n3_ := Aside0.mk (Kd.R_lower (Kd.R_new' ho20 (Kd.R_lt (kr_ HO_3.out))) (below_size (be_ HB.out))); have n4_ := Aside0.mk (below_step (be_ HB.out) hb); clear HO_3; clear HO_4; clear HO_5; clear HB; have HO_3 := n0_; have HO_4 := n1_; have HO_5 := n2_; have HO290 := n3_; have HB := n4_; clear n0_ n1_ n2_ n3_ n4_; clear hb ho20))
      go_loopg [7, 8] k1 (fun kq v7 v8 w' => ∃ (x7_2 : List Int) (x8_2 : Int), v8 = .int .i64 x8_2 ∧ Aside0 (spec_Digest.l1 kq x4_1 x7_2 x8_2 = some r) ∧ Aside0 (kq ≤ k1) ∧ Aside0 (Kd.R (Kd.int .i64) 3 w' w.heap.size (fun _ => True) u4 x4_1) ∧ Aside0 (Kd.R (Kd.int .u8) 5 w' w.heap.size (fun _ => True) v7 x7_2) ∧ Aside0 (Below w.heap.size w w'))
      case atStart => exact ⟨(y288), (0), (by first | rfl | (simp; done) | (simp [*]; done)), H', ⟨Nat.le_refl _⟩, ⟨by (with_reducible repeat (first | apply Kd.R_alloc | apply Kd.R_drewN | apply Kd.R_drew)); exact Kd.R_mono HO_4.out (fun _ hk => trivial)⟩, ⟨by (with_reducible repeat (first | apply Kd.R_alloc | apply Kd.R_drewN | apply Kd.R_drew)); exact Kd.R_mono HO290.out (fun _ hk => trivial)⟩, ⟨be_ HB.out⟩⟩
      case round =>
       clear H'
       try clear c1
       try clear q1
       try clear p2
       try clear c3
       try clear c6
       try clear p6
       try clear c8
       try clear c8b0
       try clear c9
       try clear c9b0
       try clear c9b1
       try clear c10
       try clear c10b0
       try clear c10b1
       try clear c11
       try clear c11b0
       try clear c11b1
       try clear c14
       try clear q14
       try clear p2
       try clear q014
       try clear q14
       obtain ⟨x7_2, x8_2, rfl, HA, HK2, HO_4, HO_7, HB⟩ := hrel
       cases gk with
       | zero => exact absurd HA.out (by simp [spec_Digest.l1])
       | succ k2 =>
        have H := HA.out
        clear HA
        simp only [spec_Digest.l1] at H
        by_cases c21 : x8_2 < 8
        · rw [if_pos c21] at H
          have c21b0 : decide (x8_2 < 8) = true := decide_eq_true c21
          clear c21
          by_cases c22 : 0 ≤ x8_2
          rotate_left
          · rw [if_neg c22] at H; exact absurd H (by simp)
          rw [if_pos c22] at H
          have c22b0 : decide (0 ≤ x8_2) = true := decide_eq_true c22
          clear c22
          by_cases c23 : x8_2 < (x4_1.length : Int)
          rotate_left
          · rw [if_neg c23] at H; exact absurd H (by simp)
          rw [if_pos c23] at H
          have c23b0 : decide (x8_2 < (x4_1.length : Int)) = true := decide_eq_true c23
          clear c23
          obtain ⟨y295, hy295⟩ : ∃ y_ : List Int, y_ = (([((rd x4_1 x8_2) / 16777216) % 256, ((rd x4_1 x8_2) / 65536) % 256, ((rd x4_1 x8_2) / 256) % 256, (rd x4_1 x8_2) % 256] : List Int)) := ⟨_, rfl⟩
          replace H : (if x7_2.length + y295.length < 140737488355328 then (spec_Digest.l1 k2 x4_1 (x7_2 ++ y295) (wrap64 (x8_2 + 1))) else (none)) = some r := by first | (rw [hy295]; with_reducible exact H) | (have H2_ := (Option.bind_some _ _).symm.trans H; rw [hy295]; with_reducible exact H2_) | (have H2_ := (Option.bind_some _ _).symm.trans H; with_reducible exact H2_) | with_reducible exact H | (rw [hy295]; exact H) | exact H
          have Ny295 := Aside0.mk hy295
          clear hy295
          by_cases c24 : x7_2.length + y295.length < 140737488355328
          rotate_left
          · rw [if_neg c24] at H; exact absurd H (by simp)
          rw [if_pos c24] at H
          have LMc24 := Aside0.mk c24
          clear c24
          obtain ⟨y298, hy298⟩ : ∃ y_ : List Int, y_ = (x7_2 ++ y295) := ⟨_, rfl⟩
          replace H : (spec_Digest.l1 k2 x4_1 y298 (wrap64 (x8_2 + 1))) = some r := by first | (rw [hy298]; with_reducible exact H) | (have H2_ := (Option.bind_some _ _).symm.trans H; rw [hy298]; with_reducible exact H2_) | (have H2_ := (Option.bind_some _ _).symm.trans H; with_reducible exact H2_) | with_reducible exact H | (rw [hy298]; exact H) | exact H
          have Ny298 := Aside0.mk hy298
          clear hy298
          have H' := Aside0.mk H
          clear H
          try go_wp2
          have n0_ := Aside0.mk (Kd.R_drew HO_4.out)
          have n1_ := Aside0.mk (Kd.R_drew HO_7.out)
          have n2_ := Aside0.mk (below_drew1 HB.out)
          clear HO_4
          clear HO_7
          clear HB
          have HO_4 := n0_
          have HO_7 := n1_
          have HB := n2_
          clear n0_ n1_ n2_
          obtain ⟨Ao26, co26, eo26⟩ := Kd.R_slice HO_4.out
          (first | subst eo26 | (injection eo26 with f1_ f2_ f3_; have f4_ := f1_.symm; have f5_ := f3_.symm; clear f1_ f2_ f3_; subst f4_; subst f5_))
          have p291 : 0 ≤ (x8_2 : Int) := of_decide_eq_true (by first | (with_reducible assumption) | assumption)
          have q291 : x8_2 < (x4_1.length : Int) := of_decide_eq_true (by first | (with_reducible assumption) | assumption)
          obtain ⟨ad291, e291, hx291_0⟩ := Kd.at_int (Kd.R_reads' HO_4.out).2.2 x8_2 p291 q291
          cases e291
          replace p291 := eq_true p291
          replace q291 := eq_true q291
          have p292 : 0 ≤ (x8_2 : Int) := of_decide_eq_true (by first | (with_reducible assumption) | assumption)
          have q292 : x8_2 < (x4_1.length : Int) := of_decide_eq_true (by first | (with_reducible assumption) | assumption)
          obtain ⟨ad292, e292, hx292_0⟩ := Kd.at_int (Kd.R_reads' HO_4.out).2.2 x8_2 p292 q292
          obtain rfl : ad291 = ad292 := (by injection e292)
          replace p292 := eq_true p292
          replace q292 := eq_true q292
          have p293 : 0 ≤ (x8_2 : Int) := of_decide_eq_true (by first | (with_reducible assumption) | assumption)
          have q293 : x8_2 < (x4_1.length : Int) := of_decide_eq_true (by first | (with_reducible assumption) | assumption)
          obtain ⟨ad293, e293, hx293_0⟩ := Kd.at_int (Kd.R_reads' HO_4.out).2.2 x8_2 p293 q293
          obtain rfl : ad291 = ad293 := (by injection e293)
          replace p293 := eq_true p293
          replace q293 := eq_true q293
          have p294 : 0 ≤ (x8_2 : Int) := of_decide_eq_true (by first | (with_reducible assumption) | assumption)
          have q294 : x8_2 < (x4_1.length : Int) := of_decide_eq_true (by first | (with_reducible assumption) | assumption)
          obtain ⟨ad294, e294, hx294_0⟩ := Kd.at_int (Kd.R_reads' HO_4.out).2.2 x8_2 p294 q294
          obtain rfl : ad291 = ad294 := (by injection e294)
          replace p294 := eq_true p294
          replace q294 := eq_true q294
          refine start_ (n := 27) (S := fun w' => w'.cell? (ad291.add (x8_2).toNat) = some (.int .i64 (rd x4_1 x8_2)) ∧ w'.cell? (ad291.add (x8_2).toNat) = some (.int .i64 (rd x4_1 x8_2)) ∧ w'.cell? (ad291.add (x8_2).toNat) = some (.int .i64 (rd x4_1 x8_2)) ∧ w'.cell? (ad291.add (x8_2).toNat) = some (.int .i64 (rd x4_1 x8_2))) (ds := [25]) (bq_ 0 27) (by kernel_rfl) rfl rfl ⟨hx291_0, hx292_0, hx293_0, hx294_0⟩ (fun hHeld => ?_); refine with_tabW spec_Digest.tab12 spec_Digest.bits12 (fun HT_ HW_ => ?_)
          generalize wr.drew = w25 at HO_4 HO_7 HB hx291_0 hx292_0 hx293_0 hx294_0 hHeld ⊢
          refine pu_ 0 (some 32) (bq_ 1 26) HT_ ?_
          refine pu_ 1 (some 33) (bq_ 2 25) HT_ ?_
          refine pu_ 2 (some 34) (bq_ 3 24) HT_ ?_
          refine pu_ 3 (some 35) (bq_ 4 23) HT_ ?_
          refine pu_ 7 (some 39) #[true, true, true, true, false, false, false, true, false, false, false, false, false, false, false, false, false, false, false, false, false, false, false, false, false, false, false] HT_ ?_
          refine pu_ 8 (some 40) #[true, true, true, true, false, false, false, true, true, false, false, false, false, false, false, false, false, false, false, false, false, false, false, false, false, false, false] HT_ ?_
          refine pu_ 9 (some 41) #[true, true, true, true, false, false, false, true, true, true, false, false, false, false, false, false, false, false, false, false, false, false, false, false, false, false, false] HT_ ?_
          refine pu_ 13 (some 45) #[true, true, true, true, false, false, false, true, true, true, false, false, false, true, false, false, false, false, false, false, false, false, false, false, false, false, false] HT_ ?_
          refine pu_ 14 (some 46) #[true, true, true, true, false, false, false, true, true, true, false, false, false, true, true, false, false, false, false, false, false, false, false, false, false, false, false] HT_ ?_
          refine pu_ 15 (some 47) #[true, true, true, true, false, false, false, true, true, true, false, false, false, true, true, true, false, false, false, false, false, false, false, false, false, false, false] HT_ ?_
          refine pu_ 19 (some 51) #[true, true, true, true, false, false, false, true, true, true, false, false, false, true, true, true, false, false, false, true, false, false, false, false, false, false, false] HT_ ?_
          refine pu_ 20 (some 52) #[true, true, true, true, false, false, false, true, true, true, false, false, false, true, true, true, false, false, false, true, true, false, false, false, false, false, false] HT_ ?_
          refine pu_ 21 (some 53) #[true, true, true, true, false, false, false, true, true, true, false, false, false, true, true, true, false, false, false, true, true, true, false, false, false, false, false] HT_ ?_
          refine take_ (i := 4) (N := some 36) (v := ?_) (a' := ?_) #[true, true, true, true, true, false, false, true, true, true, false, false, false, true, true, true, false, false, false, true, true, true, false, false, false, false, false] rfl rfl (take_ofW HT_.out HW_.out (by kernel_rfl)) (fun _ _ _ h => h) (Or.inl ⟨by rfl, ?_⟩) hHeld ?_ ?_
          rotate_left
          · rintro w' ⟨s0, s1, s2, s3⟩
            go_simp
            with_reducible rfl
          rotate_left
          · simp only [Act.put, sa_, sz_, ss_, i64_w, i32_w]; rfl
          refine pu_ 5 (some 37) #[true, true, true, true, true, true, false, true, true, true, false, false, false, true, true, true, false, false, false, true, true, true, false, false, false, false, false] HT_ ?_
          refine pu_ 6 (some 38) #[true, true, true, true, true, true, true, true, true, true, false, false, false, true, true, true, false, false, false, true, true, true, false, false, false, false, false] HT_ ?_
          refine take_ (i := 10) (N := some 42) (v := ?_) (a' := ?_) #[true, true, true, true, true, true, true, true, true, true, true, false, false, true, true, true, false, false, false, true, true, true, false, false, false, false, false] rfl rfl (take_ofW HT_.out HW_.out (by kernel_rfl)) (fun _ _ _ h => h) (Or.inl ⟨by rfl, ?_⟩) hHeld ?_ ?_
          rotate_left
          · rintro w' ⟨s0, s1, s2, s3⟩
            go_simp
            with_reducible rfl
          rotate_left
          · simp only [Act.put, sa_, sz_, ss_, i64_w, i32_w]; rfl
          refine pu_ 11 (some 43) #[true, true, true, true, true, true, true, true, true, true, true, true, false, true, true, true, false, false, false, true, true, true, false, false, false, false, false] HT_ ?_
          refine pu_ 12 (some 44) #[true, true, true, true, true, true, true, true, true, true, true, true, true, true, true, true, false, false, false, true, true, true, false, false, false, false, false] HT_ ?_
          refine take_ (i := 16) (N := some 48) (v := ?_) (a' := ?_) #[true, true, true, true, true, true, true, true, true, true, true, true, true, true, true, true, true, false, false, true, true, true, false, false, false, false, false] rfl rfl (take_ofW HT_.out HW_.out (by kernel_rfl)) (fun _ _ _ h => h) (Or.inl ⟨by rfl, ?_⟩) hHeld ?_ ?_
          rotate_left
          · rintro w' ⟨s0, s1, s2, s3⟩
            go_simp
            with_reducible rfl
          rotate_left
          · simp only [Act.put, sa_, sz_, ss_, i64_w, i32_w]; rfl
          refine pu_ 17 (some 49) #[true, true, true, true, true, true, true, true, true, true, true, true, true, true, true, true, true, true, false, true, true, true, false, false, false, false, false] HT_ ?_
          refine pu_ 18 (some 50) (bq_ 22 5) HT_ ?_
          refine take_ (i := 22) (N := some 54) (v := ?_) (a' := ?_) (bq_ 23 4) rfl rfl (take_ofW HT_.out HW_.out (by kernel_rfl)) (fun _ _ _ h => h) (Or.inl ⟨by rfl, ?_⟩) hHeld ?_ ?_
          rotate_left
          · rintro w' ⟨s0, s1, s2, s3⟩
            go_simp
            with_reducible rfl
          rotate_left
          · simp only [Act.put, sa_, sz_, ss_, i64_w, i32_w]; rfl
          refine pu_ 23 (some 55) (bq_ 24 3) HT_ ?_
          refine on_ 24 (some 56) (bq_ 25 2) HT_ (fun K hK => ?_)
          refine Kd.R_lit_step (Kd.int .u8) _ 5 ?hg (N := 56) ?hd (xs := ([((rd x4_1 x8_2) / 16777216) % 256, ((rd x4_1 x8_2) / 65536) % 256, ((rd x4_1 x8_2) / 256) % 256, (rd x4_1 x8_2) % 256] : List Int)) (inner := [.int .u8 (((rd x4_1 x8_2) / 16777216) % 256), .int .u8 (((rd x4_1 x8_2) / 65536) % 256), .int .u8 (((rd x4_1 x8_2) / 256) % 256), .int .u8 ((rd x4_1 x8_2) % 256)]) (ok := fun _ => True) (okp := fun _ => True) ?hr ?hp (fun _ hk => hk) trivial (Below.refl _ _) (Nat.le_refl _) (by simp) ?_; (case hd => rfl); (case hg => rfl); (case hr => first | (go_simp; done) | (go_simp; rfl)); (case hp => exact (Reps.one (show Kd.M (Kd.int .u8) _ _ _ (((rd x4_1 x8_2) / 16777216) % 256) [.int .u8 (((rd x4_1 x8_2) / 16777216) % 256)] from rfl) (Reps.one (show Kd.M (Kd.int .u8) _ _ _ (((rd x4_1 x8_2) / 65536) % 256) [.int .u8 (((rd x4_1 x8_2) / 65536) % 256)] from rfl) (Reps.one (show Kd.M (Kd.int .u8) _ _ _ (((rd x4_1 x8_2) / 256) % 256) [.int .u8 (((rd x4_1 x8_2) / 256) % 256)] from rfl) (Reps.one (show Kd.M (Kd.int .u8) _ _ _ ((rd x4_1 x8_2) % 256) [.int .u8 ((rd x4_1 x8_2) % 256)] from rfl) (Reps.none _ _))))))
          intro v296 w27 ho28 hb hg_ hnew_
          have HS0_ := (hb.cell (World.block_lt_of_cell? _ _ (hHeld.1))).trans (hHeld.1)
          have HS1_ := (hb.cell (World.block_lt_of_cell? _ _ (hHeld.2.1))).trans (hHeld.2.1)
          have HS2_ := (hb.cell (World.block_lt_of_cell? _ _ (hHeld.2.2.1))).trans (hHeld.2.2.1)
          have HS3_ := (hb.cell (World.block_lt_of_cell? _ _ (hHeld.2.2.2))).trans (hHeld.2.2.2)
          clear hg_ hnew_
          (first | rw [← Ny295.out] at ho28 | (simp only [Int.reduceToNat] at ho28; rw [← Ny295.out] at ho28))
          have n0_ := Aside0.mk (Kd.R_below (kr_ HO_4.out) hb)
          have n1_ := Aside0.mk (Kd.R_elder' (kr_ HO_7.out) (Kd.R_base ho28) hb)
          have n2_ := Aside0.mk (Kd.R_lower (Kd.R_new' ho28 (Kd.R_lt (kr_ HO_7.out))) (below_size (be_ HB.out)))
          have n3_ := Aside0.mk (below_step (be_ HB.out) hb)
          clear HO_4
          clear HO_7
          clear HB
          have HO_4 := n0_
          have HO_7 := n1_
          have HO297 := n2_
          have HB := n3_
          clear n0_ n1_ n2_ n3_
          clear hb ho28
          obtain ⟨Ao30, co30, eo30⟩ := Kd.R_slice HO297.out
          (first | subst eo30 | (injection eo30 with f1_ f2_ f3_; have f4_ := f1_.symm; have f5_ := f3_.symm; clear f1_ f2_ f3_; subst f4_; subst f5_))
          refine hK.out _ _ ⟨HS0_, HS1_, HS2_, HS3_⟩ (fun hHeld => ?_)
          clear hK K
          refine nm_ ?_
          refine last_ (i := 25) (N := some 57) (bq_ 26 1) rfl rfl (one_of HT_.out (by kernel_rfl)) (by decide) (fun K hK => ?_)
          refine Kd.R_append_rows_step (Kd.int .u8) (w0 := w) w.heap.size (by rfl) (.tmp 32) (.tmp 56) 24 5 (.int .u8 0) 1 rfl Try.underlying24 info5 rfl (by decide) (by omega) u7 x7_2 y295 _ _ _ (fun k_ => some k_ ≠ (.slice Ao30 y295.length co30 : Value).ownBlock) (fun _ => False) rfl rfl ?aO ?aR (fun _ _ h => h) (fun _ h => h.elim) ?aF ?aB ?aS ?aL ?_
          (case aR => exact kc_ (Kd.R_reads' HO297.out).2.2)
          (case aB => exact (be_ HB.out))
          (case aF => exact (fun k_ hk => Kd.fresh' (Kd.R_lt (kr_ HO297.out)) k_ hk))
          (case aO => exact (by (with_reducible repeat (first | apply Kd.R_alloc | apply Kd.R_drewN | apply Kd.R_drew)); exact Kd.R_mono HO_7.out (fun _ hk => hk.2)))
          (case aS => exact (below_size (be_ HB.out)))
          (case aL => have := LMc24.out; omega)
          intro v299 w29 ho hb hg hat
          rw [← Ny298.out] at ho
          have n0_ := Aside0.mk (Kd.R_over' (kr_ HO_4.out) (Kd.R_typed (kr_ HO_7.out)) (by decide) hg)
          have n1_ := Aside0.mk (Kd.R_after (ok := (fun _ => True)) (kr_ HO297.out) hg hat)
          have n2_ := Aside0.mk (hb)
          have n3_ := Aside0.mk (ho)
          clear HO_4
          clear HO297
          clear HB
          clear HO_7
          have HO_4 := n0_
          have HO297 := n1_
          have HB := n2_
          have HO300 := n3_
          clear n0_ n1_ n2_ n3_
          clear ho hb hg hat
          refine hK.out _ _ ?_
          clear hK K
          refine nm_ ?_
          refine pu_ 26 (some 7) (bq_ 27 0) HT_ ?_
          refine done_ (done_of HT_.out (by kernel_rfl)) ?_
          try go_wp2
          go_roundg k2
          case measure => have := HK1.out; have := HK2.out; omega
          case rel => exact ⟨(y298), (wrap64 (x8_2 + 1)), (by first | rfl | (simp; done) | (simp [*]; done)), H', ⟨by have := HK1.out; have := HK2.out; omega⟩, ⟨by (with_reducible repeat (first | apply Kd.R_alloc | apply Kd.R_drewN | apply Kd.R_drew)); exact HO_4.out⟩, ⟨by (with_reducible repeat (first | apply Kd.R_alloc | apply Kd.R_drewN | apply Kd.R_drew)); exact Kd.R_mono HO300.out (fun _ hk => trivial)⟩, ⟨be_ HB.out⟩⟩
        · rw [if_neg c21] at H
          have c21b0 : decide (x8_2 < 8) = false := decide_eq_false c21
          clear c21
          obtain rfl := Option.some.inj H
          have hcv31 := own_string (P := Try.prog) Try.underlying24 Try.underlying5 Try.underlying9 (Kd.own_of_R HO_7.out)
          go_wp2
          go_ret
          exact ⟨by first | rfl | (simp [errW_none, errW_some] <;> rfl) | (simp [*, errW_none, errW_some] <;> rfl), be_ HB.out⟩

end Go.Proofs.Ytbelaenekbflfaa.P
