-- Written by wip/xp/xp.py over the kit's print; Lean checks it.
import Derived.Test.YtgaalomhipfgjaaPx0
import Derived.Test.YtgaalomhipfgjaaPx1
import Derived.Test.YtgaalomhipfgjaaPx2
namespace Go.Proofs.Ytgaalomhipfgjaa.P
open Go.RowKit Go.Proofs.YtgaalomhipfgjaaW.PrintWords Go.Proofs.YtgaalomhipfgjaaW.PrintLast Go.Proofs.YtgaalomhipfgjaaW.PrintMore
attribute [local go_sem] max2_int min2_int max_two min_two max_three min_three max_four min_four   -- for this text's walks alone
set_option linter.unusedVariables false
set_option linter.unusedSimpArgs false

/-! ###  spec_Digest: function 53 -/
mutual
def spec_Digest.l0 : Nat → List Int → List Int → List Int → Int → Option (ByteArray)
  | 0, _, _, _, _ => none
  | k + 1, x3, x4, x5, x6 => if x6 < (x3.length : Int) then (if 0 ≤ x6 then (if x6 ≤ (wrap64 (x6 + 64)) then (if (wrap64 (x6 + 64)) ≤ (x3.length : Int) then ((spec_l2Block.f k x4 ((x3.take ((wrap64 (x6 + 64)) : Int).toNat).drop (x6 : Int).toNat) x5).bind fun t199 => (spec_Digest.l0 k x3 t199 x5 (wrap64 (x6 + 64)))) else (none)) else (none)) else (none)) else (spec_Digest.l1 k x4 (([] : List Int)) 0)
def spec_Digest.l1 : Nat → List Int → List Int → Int → Option (ByteArray)
  | 0, _, _, _ => none
  | k + 1, x4, x7, x8 => if x8 < 8 then (if 0 ≤ x8 then (if x8 < (x4.length : Int) then ((some (([((rd x4 x8) / 16777216) % 256, ((rd x4 x8) / 65536) % 256, ((rd x4 x8) / 256) % 256, (rd x4 x8) % 256] : List Int) : List Int)).bind fun y209 => (if x7.length + y209.length < 140737488355328 then (spec_Digest.l1 k x4 (x7 ++ y209) (wrap64 (x8 + 1))) else (none))) else (none)) else (none)) else (some (strOfNums x7))
end
def spec_Digest.f (k : Nat) (l0 : List Int) : Option (ByteArray) := (spec_Padded.f k l0).bind fun t186 => ((spec_l2K.f).bind fun t192 => (spec_Digest.l0 k t186 (([1779033703, 3144134277, 1013904242, 2773480762, 1359893119, 2600822924, 528734635, 1541459225] : List Int)) t192 0))
def spec_Digest.T12 : Bool × List (List Nat × List Nat) := (true, [([], []), ([], []), ([], []), ([1, 2], [1, 2]), ([3], [3]), ([4], [4]), ([5], [5]), ([], []), ([], []), ([7, 8], [7, 8]), ([9], [9]), ([10], [10]), ([11], [11]), ([], []), ([], []), ([13, 14], [13, 14]), ([15], [15]), ([16], [16]), ([17], [17]), ([], []), ([], []), ([19, 20], [19, 20]), ([21], [21]), ([22], [22]), ([6, 12, 18, 23], [6, 12, 18, 23]), ([0, 24], [0, 24]), ([25, 25, 0, 1, 2, 3, 4, 5, 6, 7, 8, 9, 10, 11, 12, 13, 14, 15, 16, 17, 18, 19, 20, 21, 22, 23, 24, 25], [0, 25])])
def spec_Digest.B12 : List Nat := [0, 0, 0, 6, 14, 30, 62, 0, 0, 384, 896, 1920, 3968, 0, 0, 24576, 57344, 122880, 253952, 0, 0, 1572864, 3670016, 7864320, 16777214, 33554431, 67108863]
theorem spec_Digest.tab12 : rtab .any (opsOf Try.f53 12) = spec_Digest.T12 := by kernel_rfl
theorem spec_Digest.bits12 : waitsOk spec_Digest.T12.2 spec_Digest.B12 = true := by kernel_rfl
set_option maxHeartbeats 8000000 in
set_option maxRecDepth 100000 in
theorem spec_Digest.calls (k : Nat) (A0 : Option Addr) (c0 : Nat) (l0 : List Int) (r : ByteArray) (w : World) (hr0 : Kd.C (Kd.int .u8) w A0 l0.length l0) (hc0 : l0.length ≤ c0) (h : spec_Digest.f k l0 = some r) :
  Calls Try.prog 53 #[.slice A0 l0.length c0] w fun e w' => e = .returned (.string r) ∧ Below w.heap.size w w' := by
  have HR0 := Aside0.mk hr0
  have HC0 := Aside0.mk hc0
  clear hr0 hc0
  have HB := q_ (Below.refl w.heap.size w)
  have H : ((spec_Padded.f k l0).bind fun t186 => ((spec_l2K.f).bind fun t192 => (spec_Digest.l0 k t186 (([1779033703, 3144134277, 1013904242, 2773480762, 1359893119, 2600822924, 528734635, 1541459225] : List Int)) t192 0))) = some r := h
  clear h
  replace H := Option.bind_eq_some_iff.mp H
  obtain ⟨t186, A20, H⟩ := H
  have A2 := Aside0.mk A20
  clear A20
  obtain ⟨y189, hy189⟩ : ∃ y_ : List Int, y_ = (([1779033703, 3144134277, 1013904242, 2773480762, 1359893119, 2600822924, 528734635, 1541459225] : List Int)) := ⟨_, rfl⟩
  replace H : ((spec_l2K.f).bind fun t192 => (spec_Digest.l0 k t186 y189 t192 0)) = some r := ry_ hy189 H
  have Ny189 := Aside0.mk hy189
  clear hy189
  replace H := Option.bind_eq_some_iff.mp H
  obtain ⟨t192, A30, H⟩ := H
  have A3 := Aside0.mk A30
  clear A30
  have H' := Aside0.mk H
  clear H
  go_enter Try.func53, Try.ntmps53
  go_wp2_with (first | ((with_reducible refine gate_callee (f := 95) rfl ?_); refine gl_ (some 10) Try.func95 #[.slice A0 l0.length c0] rfl al_ ?_; (with_reducible refine (spec_Padded.calls k _ _ l0 t186 _ ?side1 ?side2 A2.out).mono ?_); (case side1 => exact kc_ HR0.out); (case side2 => exact HC0.out); rintro e w4 ⟨v187, rfl, ho0, hb⟩; refine ⟨_, rfl, ?_⟩; have HO188 := q_ (Kd.R_lower ho0 (below_size (be_ HB.out))); replace HB := q_ (below_step (be_ HB.out) hb); (try clear hb); (try clear ho0)) | ((with_reducible refine gate_dst (N := 11) rfl ?_); refine Kd.R_lit (Kd.int .i64) _ 3 ?hg (N := 11) ?hd (xs := ([1779033703, 3144134277, 1013904242, 2773480762, 1359893119, 2600822924, 528734635, 1541459225] : List Int)) (inner := [.int .i64 1779033703, .int .i64 3144134277, .int .i64 1013904242, .int .i64 2773480762, .int .i64 1359893119, .int .i64 2600822924, .int .i64 528734635, .int .i64 1541459225]) (ok := fun _ => True) (okp := fun _ => True) ?hr ?hp (fun _ hk => hk) trivial (Below.refl _ _) (Nat.le_refl _) (by simp) ?_; (case hd => rfl); (case hg => rfl); (case hr => first | (go_simp; done) | (go_simp; rfl)); (case hp => exact (Reps.one (show Kd.M (Kd.int .i64) _ _ _ 1779033703 [.int .i64 1779033703] from rfl) (Reps.one (show Kd.M (Kd.int .i64) _ _ _ 3144134277 [.int .i64 3144134277] from rfl) (Reps.one (show Kd.M (Kd.int .i64) _ _ _ 1013904242 [.int .i64 1013904242] from rfl) (Reps.one (show Kd.M (Kd.int .i64) _ _ _ 2773480762 [.int .i64 2773480762] from rfl) (Reps.one (show Kd.M (Kd.int .i64) _ _ _ 1359893119 [.int .i64 1359893119] from rfl) (Reps.one (show Kd.M (Kd.int .i64) _ _ _ 2600822924 [.int .i64 2600822924] from rfl) (Reps.one (show Kd.M (Kd.int .i64) _ _ _ 528734635 [.int .i64 528734635] from rfl) (Reps.one (show Kd.M (Kd.int .i64) _ _ _ 1541459225 [.int .i64 1541459225] from rfl) (Reps.none _ _)))))))))); intro v190 w5 ho6 hb hg_ hnew_; clear hg_ hnew_; (first | rw [← Ny189.out] at ho6 | (simp only [Int.reduceToNat] at ho6; rw [← Ny189.out] at ho6)); replace HO188 := q_ (Kd.R_below (kr_ HO188.out) hb); have HO191 := q_ (Kd.R_lower ho6 (below_size (be_ HB.out))); replace HB := q_ (below_step (be_ HB.out) hb); clear hb ho6) | ((with_reducible refine gate_callee (f := 96) rfl ?_); refine gl_ (some 12) Try.func96 #[] rfl al_ ?_; (with_reducible refine (spec_l2K.calls  t192 _ A3.out).mono ?_); rintro e w7 ⟨v193, rfl, ho0, hb⟩; refine ⟨_, rfl, ?_⟩; replace HO188 := q_ (Kd.R_below (kr_ HO188.out) hb); have HO194 := q_ (Kd.R_lower (Kd.R_new' ho0 (Kd.R_lt (kr_ HO191.out))) (below_size (be_ HB.out))); replace HO191 := q_ (Kd.R_elder' (kr_ HO191.out) (Kd.R_base ho0) hb); replace HB := q_ (below_step (be_ HB.out) hb); (try clear hb); (try clear ho0)))
  go_loopg [4, 6] k (fun kq v4 v6 w' => ∃ (x4_1 : List Int) (x6_1 : Int), v6 = .int .i64 x6_1 ∧ Aside0 (spec_Digest.l0 kq t186 x4_1 t192 x6_1 = some r) ∧ Aside0 (kq ≤ k) ∧ Aside0 (Kd.R (Kd.int .u8) 5 w' w.heap.size (fun _ => True) v187 t186) ∧ Aside0 (Kd.R (Kd.int .i64) 3 w' w.heap.size (fun k_ => some k_ ≠ (v193 : Value).ownBlock) v4 x4_1) ∧ Aside0 (Kd.R (Kd.int .i64) 3 w' w.heap.size (fun k_ => some k_ ≠ (v4 : Value).ownBlock) v193 t192) ∧ Aside0 (Below w.heap.size w w'))
  case atStart => exact ⟨(y189), (0), rs_, H', ⟨Nat.le_refl _⟩, ⟨by (with_reducible repeat (first | apply Kd.R_alloc | apply Kd.R_drewN | apply Kd.R_drew)); exact HO188.out⟩, ⟨by (with_reducible repeat (first | apply Kd.R_alloc | apply Kd.R_drewN | apply Kd.R_drew)); exact Kd.R_mono HO191.out (fun _ hk => hk.2)⟩, ⟨by (with_reducible repeat (first | apply Kd.R_alloc | apply Kd.R_drewN | apply Kd.R_drew)); exact Kd.R_mono HO194.out (fun _ hk => hk.2)⟩, ⟨be_ HB.out⟩⟩
  case round =>
   clear H'
   try clear p2
   try clear c5
   obtain ⟨x4_1, x6_1, rfl, HA, HK1, HO_3, HO_4, HO_5, HB⟩ := hrel
   cases gk with
   | zero => exact absurd HA.out (by simp [spec_Digest.l0])
   | succ k1 =>
    have H := HA.out
    clear HA
    simp only [spec_Digest.l0] at H
    by_cases c8 : x6_1 < (t186.length : Int)
    · rw [if_pos c8] at H
      have c8b0 : decide (x6_1 < (t186.length : Int)) = true := decide_eq_true c8
      clear c8
      by_cases c9 : 0 ≤ x6_1
      rotate_left
      · rw [if_neg c9] at H; exact absurd H (by simp)
      rw [if_pos c9] at H
      have c9b0 := eq_true c9
      have c9b1 : decide (0 ≤ x6_1) = true := decide_eq_true c9
      clear c9
      by_cases c10 : x6_1 ≤ (wrap64 (x6_1 + 64))
      rotate_left
      · rw [if_neg c10] at H; exact absurd H (by simp)
      rw [if_pos c10] at H
      have c10b0 := eq_true c10
      have c10b1 : decide (x6_1 ≤ (wrap64 (x6_1 + 64))) = true := decide_eq_true c10
      by_cases c11 : (wrap64 (x6_1 + 64)) ≤ (t186.length : Int)
      rotate_left
      · rw [if_neg c11] at H; exact absurd H (by simp)
      rw [if_pos c11] at H
      have c11b0 := eq_true c11
      have c11b1 : decide ((wrap64 (x6_1 + 64)) ≤ (t186.length : Int)) = true := decide_eq_true c11
      obtain ⟨y195, hy195⟩ : ∃ y_ : List Int, y_ = ((t186.take ((wrap64 (x6_1 + 64)) : Int).toNat).drop (x6_1 : Int).toNat) := ⟨_, rfl⟩
      replace H : ((spec_l2Block.f k1 x4_1 y195 t192).bind fun t199 => (spec_Digest.l0 k1 t186 t199 t192 (wrap64 (x6_1 + 64)))) = some r := ry_ hy195 H
      have Ny195 := Aside0.mk hy195
      clear hy195
      replace H := Option.bind_eq_some_iff.mp H
      obtain ⟨t199, A120, H⟩ := H
      have A12 := Aside0.mk A120
      clear A120
      have H' := Aside0.mk H
      clear H
      obtain ⟨Ao13, co13, eo13⟩ := Kd.R_slice HO_3.out
      subst eo13
      have q14 : ((wrap64 (x6_1 + 64)) : Int) ≤ ((t186.length : Int) : Int) := od_
      obtain ⟨i014, hi014, _, hsz14, _⟩ := info_parts info5
      have hroom14 : t186.length ≤ co13 := (Kd.R_reads' HO_3.out).2.1
      have hC14 : Kd.C (Kd.int .u8) _ Ao13 t186.length t186 := (Kd.R_reads' HO_3.out).2.2
      have ql14 : (x6_1 : Int) ≤ ((wrap64 (x6_1 + 64)) : Int) := od_
      have q014 : (0 : Int) ≤ (x6_1 : Int) := od_
      have hcut14 := cut_mid (P := Try.prog) 22 5 .i64 .i64 Try.underlying22 hi014 1 hsz14 Ao13 t186.length co13 x6_1 (wrap64 (x6_1 + 64)) q014 ql14 q14 hroom14
      have hr14 := Kd.C_mid (lo := (x6_1 : Int).toNat) (hi := ((wrap64 (x6_1 + 64)) : Int).toNat) (c := co13) hC14 (by omega) (by omega) hroom14
      obtain ⟨A14, hA14⟩ : ∃ A1, A1 = (if co13 = (x6_1 : Int).toNat then Ao13 else (Ao13 : Option Addr).map (·.add ((x6_1 : Int).toNat * 1))) := ⟨_, rfl⟩
      obtain ⟨c14, hc14⟩ : ∃ c1, c1 = co13 - (x6_1 : Int).toNat := ⟨_, rfl⟩
      have hy14 : y195.length = ((wrap64 (x6_1 + 64)) : Int).toNat - (x6_1 : Int).toNat := (by rw [Ny195.out, List.length_drop, List.length_take] <;> omega)
      rw [show ((t186).take ((wrap64 (x6_1 + 64)) : Int).toNat).drop (x6_1 : Int).toNat = y195 from Ny195.out.symm] at hr14
      replace hr14 : Kd.C (Kd.int .u8) _ A14 y195.length y195 := (by rw [hA14]; exact hr14)
      rw [← hy14, ← hA14, ← hc14] at hcut14
      have HR198 := Aside0.mk hr14
      have HC198 := q_ (show y195.length ≤ c14 from by rw [hy14, hc14]; exact Nat.sub_le_sub_right (Nat.le_trans (by omega) hroom14) _)
      clear hr14 hC14 hroom14 hi014 hsz14 hc14
      have KY14 := Aside0.mk hy14
      have KA14 := Aside0.mk hA14
      clear hy14 hA14
      have KL14 := q_ (show ((wrap64 (x6_1 + 64)) : Int).toNat ≤ t186.length from by omega)
      have KM14 := q_ (show (x6_1 : Int).toNat ≤ ((wrap64 (x6_1 + 64)) : Int).toNat from by omega)
      replace q14 := eq_true q14
      obtain ⟨Ao15, co15, eo15⟩ := Kd.R_slice HO_4.out
      subst eo15
      obtain ⟨Ao16, co16, eo16⟩ := Kd.R_slice HO_5.out
      subst eo16
      go_wp2_with (first | ((with_reducible refine gate_callee (f := 97) rfl ?_); refine gl_ (some 26) Try.func97 #[.slice Ao15 x4_1.length co15, .slice A14 y195.length c14, .slice Ao16 t192.length co16] rfl al_ ?_; (with_reducible refine (spec_l2Block.calls k1 _ _ x4_1 _ _ y195 _ _ t192 t199 _ ?side1 ?side2 ?side3 ?side4 ?side5 ?side6 A12.out).mono ?_); (case side1 => exact kc_ (Kd.R_reads' HO_4.out).2.2); (case side2 => exact (Kd.R_reads' HO_4.out).2.1); (case side3 => repeat (first | exact (by repeat (first | (with_reducible exact HR198.out) | (with_reducible refine Kd.C_alloc ?_ _) | (with_reducible refine Kd.C_drewN ?_ _) | (with_reducible refine Kd.C_drew ?_) | exact HR198.out)) | (with_reducible refine Kd.C_alloc ?_ _) | (with_reducible refine Kd.C_drewN ?_ _) | (with_reducible refine Kd.C_drew ?_))); (case side4 => exact HC198.out); (case side5 => exact kc_ (Kd.R_reads' HO_5.out).2.2); (case side6 => exact (Kd.R_reads' HO_5.out).2.1); rintro e w17 ⟨v200, rfl, ho0, hb⟩; refine ⟨_, rfl, ?_⟩; replace HO_3 := q_ (Kd.R_below (kr_ HO_3.out) hb); have HO201 := q_ (Kd.R_lower (Kd.R_new' (Kd.R_new' ho0 (Kd.R_lt (kr_ HO_4.out))) (Kd.R_lt (kr_ HO_5.out))) (below_size (be_ HB.out))); replace HO_4 := q_ (Kd.R_elder' (kr_ HO_4.out) (Kd.R_base ho0) hb); replace HO_5 := q_ (Kd.R_elder' (kr_ HO_5.out) (Kd.R_base ho0) hb); replace HR198 := q_ (Kd.C_below (by repeat (first | (with_reducible exact HR198.out) | (with_reducible refine Kd.C_alloc ?_ _) | (with_reducible refine Kd.C_drewN ?_ _) | (with_reducible refine Kd.C_drew ?_) | exact HR198.out)) hb); replace HB := q_ (below_step (be_ HB.out) hb); (try clear hb); (try clear ho0)))
      go_roundg k1
      case measure => have := HK1.out; omega
      case rel => exact ⟨(t199), (wrap64 (x6_1 + 64)), rs_, H', ⟨by have := HK1.out; omega⟩, ⟨by (with_reducible repeat (first | apply Kd.R_alloc | apply Kd.R_drewN | apply Kd.R_drew)); exact HO_3.out⟩, ⟨by (with_reducible repeat (first | apply Kd.R_alloc | apply Kd.R_drewN | apply Kd.R_drew)); exact Kd.R_mono HO201.out (fun _ hk => hk.2)⟩, ⟨by (with_reducible repeat (first | apply Kd.R_alloc | apply Kd.R_drewN | apply Kd.R_drew)); exact Kd.R_mono HO_5.out (fun _ hk => hk.2)⟩, ⟨be_ HB.out⟩⟩
    · rw [if_neg c8] at H
      have c8b0 : decide (x6_1 < (t186.length : Int)) = false := decide_eq_false c8
      clear c8
      obtain ⟨y202, hy202⟩ : ∃ y_ : List Int, y_ = (([] : List Int)) := ⟨_, rfl⟩
      replace H : (spec_Digest.l1 k1 x4_1 y202 0) = some r := ry_ hy202 H
      have Ny202 := Aside0.mk hy202
      clear hy202
      have H' := Aside0.mk H
      clear H
      obtain ⟨Ao18, co18, eo18⟩ := Kd.R_slice HO_3.out
      subst eo18
      go_wp2_with (first | ((with_reducible refine gate_dst (N := 27) rfl ?_); refine Kd.R_lit (Kd.int .u8) _ 5 ?hg (N := 27) ?hd (xs := ([] : List Int)) (inner := []) (ok := fun _ => True) (okp := fun _ => True) ?hr ?hp (fun _ hk => hk) trivial (Below.refl _ _) (Nat.le_refl _) (by simp) ?_; (case hd => rfl); (case hg => rfl); (case hr => first | (go_simp; done) | (go_simp; rfl)); (case hp => exact (Reps.none _ _)); intro v203 w19 ho20 hb hg_ hnew_; clear hg_ hnew_; (first | rw [← Ny202.out] at ho20 | (simp only [Int.reduceToNat] at ho20; rw [← Ny202.out] at ho20)); replace HO_4 := q_ (Kd.R_below (kr_ HO_4.out) hb); replace HO_5 := q_ (Kd.R_below (kr_ HO_5.out) hb); have HO204 := q_ (Kd.R_lower (Kd.R_new' ho20 (Kd.R_lt (kr_ HO_3.out))) (below_size (be_ HB.out))); replace HO_3 := q_ (Kd.R_elder' (kr_ HO_3.out) (Kd.R_base ho20) hb); replace HB := q_ (below_step (be_ HB.out) hb); clear hb ho20))
      go_loopg [7, 8] k1 (fun kq v7 v8 w' => ∃ (x7_2 : List Int) (x8_2 : Int), v8 = .int .i64 x8_2 ∧ Aside0 (spec_Digest.l1 kq x4_1 x7_2 x8_2 = some r) ∧ Aside0 (kq ≤ k1) ∧ Aside0 (Kd.R (Kd.int .i64) 3 w' w.heap.size (fun _ => True) u4 x4_1) ∧ Aside0 (Kd.R (Kd.int .u8) 5 w' w.heap.size (fun _ => True) v7 x7_2) ∧ Aside0 (Below w.heap.size w w'))
      case atStart => exact ⟨(y202), (0), rs_, H', ⟨Nat.le_refl _⟩, ⟨by (with_reducible repeat (first | apply Kd.R_alloc | apply Kd.R_drewN | apply Kd.R_drew)); exact Kd.R_mono HO_4.out (fun _ hk => trivial)⟩, ⟨by (with_reducible repeat (first | apply Kd.R_alloc | apply Kd.R_drewN | apply Kd.R_drew)); exact Kd.R_mono HO204.out (fun _ hk => trivial)⟩, ⟨be_ HB.out⟩⟩
      case round =>
       clear H'
       try clear c1
       try clear q1
       try clear p2
       try clear c5
       try clear p6
       try clear c8
       try clear c8b0
       try clear c9
       try clear c9b0
       try clear c9b1
       try clear c10
       try clear c10b0
       try clear c10b1
       try clear c11
       try clear c11b0
       try clear c11b1
       try clear c14
       try clear q14
       try clear p2
       try clear q014
       try clear q14
       obtain ⟨x7_2, x8_2, rfl, HA, HK2, HO_4, HO_7, HB⟩ := hrel
       cases gk with
       | zero => exact absurd HA.out (by simp [spec_Digest.l1])
       | succ k2 =>
        have H := HA.out
        clear HA
        simp only [spec_Digest.l1] at H
        by_cases c21 : x8_2 < 8
        · rw [if_pos c21] at H
          have c21b0 : decide (x8_2 < 8) = true := decide_eq_true c21
          clear c21
          by_cases c22 : 0 ≤ x8_2
          rotate_left
          · rw [if_neg c22] at H; exact absurd H (by simp)
          rw [if_pos c22] at H
          have c22b0 : decide (0 ≤ x8_2) = true := decide_eq_true c22
          clear c22
          by_cases c23 : x8_2 < (x4_1.length : Int)
          rotate_left
          · rw [if_neg c23] at H; exact absurd H (by simp)
          rw [if_pos c23] at H
          have c23b0 : decide (x8_2 < (x4_1.length : Int)) = true := decide_eq_true c23
          clear c23
          obtain ⟨y209, hy209⟩ : ∃ y_ : List Int, y_ = (([((rd x4_1 x8_2) / 16777216) % 256, ((rd x4_1 x8_2) / 65536) % 256, ((rd x4_1 x8_2) / 256) % 256, (rd x4_1 x8_2) % 256] : List Int)) := ⟨_, rfl⟩
          replace H : (if x7_2.length + y209.length < 140737488355328 then (spec_Digest.l1 k2 x4_1 (x7_2 ++ y209) (wrap64 (x8_2 + 1))) else (none)) = some r := ry_ hy209 H
          have Ny209 := Aside0.mk hy209
          clear hy209
          by_cases c24 : x7_2.length + y209.length < 140737488355328
          rotate_left
          · rw [if_neg c24] at H; exact absurd H (by simp)
          rw [if_pos c24] at H
          have LMc24 := Aside0.mk c24
          clear c24
          obtain ⟨y212, hy212⟩ : ∃ y_ : List Int, y_ = (x7_2 ++ y209) := ⟨_, rfl⟩
          replace H : (spec_Digest.l1 k2 x4_1 y212 (wrap64 (x8_2 + 1))) = some r := ry_ hy212 H
          have Ny212 := Aside0.mk hy212
          clear hy212
          have H' := Aside0.mk H
          clear H
          try go_wp2
          replace HO_4 := q_ (Kd.R_drew HO_4.out)
          replace HO_7 := q_ (Kd.R_drew HO_7.out)
          replace HB := q_ (below_drew1 HB.out)
          obtain ⟨Ao26, co26, eo26⟩ := Kd.R_slice HO_4.out
          (first | subst eo26 | (injection eo26 with f1_ f2_ f3_; have f4_ := f1_.symm; have f5_ := f3_.symm; clear f1_ f2_ f3_; subst f4_; subst f5_))
          have p205 : 0 ≤ (x8_2 : Int) := od_
          have q205 : x8_2 < (x4_1.length : Int) := od_
          obtain ⟨ad205, e205, hx205_0⟩ := Kd.at_int (Kd.R_reads' HO_4.out).2.2 x8_2 p205 q205
          cases e205
          replace p205 := eq_true p205
          replace q205 := eq_true q205
          have p206 : 0 ≤ (x8_2 : Int) := od_
          have q206 : x8_2 < (x4_1.length : Int) := od_
          obtain ⟨ad206, e206, hx206_0⟩ := Kd.at_int (Kd.R_reads' HO_4.out).2.2 x8_2 p206 q206
          obtain rfl : ad205 = ad206 := (by injection e206)
          replace p206 := eq_true p206
          replace q206 := eq_true q206
          have p207 : 0 ≤ (x8_2 : Int) := od_
          have q207 : x8_2 < (x4_1.length : Int) := od_
          obtain ⟨ad207, e207, hx207_0⟩ := Kd.at_int (Kd.R_reads' HO_4.out).2.2 x8_2 p207 q207
          obtain rfl : ad205 = ad207 := (by injection e207)
          replace p207 := eq_true p207
          replace q207 := eq_true q207
          have p208 : 0 ≤ (x8_2 : Int) := od_
          have q208 : x8_2 < (x4_1.length : Int) := od_
          obtain ⟨ad208, e208, hx208_0⟩ := Kd.at_int (Kd.R_reads' HO_4.out).2.2 x8_2 p208 q208
          obtain rfl : ad205 = ad208 := (by injection e208)
          replace p208 := eq_true p208
          replace q208 := eq_true q208
          refine start_ (n := 27) (S := fun w' => w'.cell? (ad205.add (x8_2).toNat) = some (.int .i64 (rd x4_1 x8_2)) ∧ w'.cell? (ad205.add (x8_2).toNat) = some (.int .i64 (rd x4_1 x8_2)) ∧ w'.cell? (ad205.add (x8_2).toNat) = some (.int .i64 (rd x4_1 x8_2)) ∧ w'.cell? (ad205.add (x8_2).toNat) = some (.int .i64 (rd x4_1 x8_2))) (ds := [25]) (bq_ 0 27) (by kernel_rfl) rfl rfl ⟨hx205_0, hx206_0, hx207_0, hx208_0⟩ (fun hHeld => ?_); refine with_tabW spec_Digest.tab12 spec_Digest.bits12 (fun HT_ HW_ => ?_)
          generalize wr.drew = w25 at HO_4 HO_7 HB hx205_0 hx206_0 hx207_0 hx208_0 hHeld ⊢
          refine pu_ 0 (some 32) (bq_ 1 26) HT_ ?_
          refine pu_ 1 (some 33) (bq_ 2 25) HT_ ?_
          refine pu_ 2 (some 34) (bq_ 3 24) HT_ ?_
          refine pu_ 3 (some 35) (bq_ 4 23) HT_ ?_
          refine pu_ 7 (some 39) (br_ [4, 3, 1, 19]) HT_ ?_
          refine pu_ 8 (some 40) (br_ [4, 3, 2, 18]) HT_ ?_
          refine pu_ 9 (some 41) (br_ [4, 3, 3, 17]) HT_ ?_
          refine pu_ 13 (some 45) (br_ [4, 3, 3, 3, 1, 13]) HT_ ?_
          refine pu_ 14 (some 46) (br_ [4, 3, 3, 3, 2, 12]) HT_ ?_
          refine pu_ 15 (some 47) (br_ [4, 3, 3, 3, 3, 11]) HT_ ?_
          refine pu_ 19 (some 51) (br_ [4, 3, 3, 3, 3, 3, 1, 7]) HT_ ?_
          refine pu_ 20 (some 52) (br_ [4, 3, 3, 3, 3, 3, 2, 6]) HT_ ?_
          refine pu_ 21 (some 53) (br_ [4, 3, 3, 3, 3, 3, 3, 5]) HT_ ?_
          refine take_ (i := 4) (N := some 36) (v := ?_) (a' := ?_) (br_ [5, 2, 3, 3, 3, 3, 3, 5]) rfl rfl (take_ofW HT_.out HW_.out (by kernel_rfl)) (fun _ _ _ h => h) (Or.inl ⟨by rfl, ?_⟩) hHeld ?_ ?_
          rotate_left
          · rintro w' ⟨s0, s1, s2, s3⟩
            go_simp
            with_reducible rfl
          rotate_left
          · simp only [Act.put, sa_, sz_, ss_, i64_w, i32_w]; rfl
          refine pu_ 5 (some 37) (br_ [6, 1, 3, 3, 3, 3, 3, 5]) HT_ ?_
          refine pu_ 6 (some 38) (br_ [10, 3, 3, 3, 3, 5]) HT_ ?_
          refine take_ (i := 10) (N := some 42) (v := ?_) (a' := ?_) (br_ [11, 2, 3, 3, 3, 5]) rfl rfl (take_ofW HT_.out HW_.out (by kernel_rfl)) (fun _ _ _ h => h) (Or.inl ⟨by rfl, ?_⟩) hHeld ?_ ?_
          rotate_left
          · rintro w' ⟨s0, s1, s2, s3⟩
            go_simp
            with_reducible rfl
          rotate_left
          · simp only [Act.put, sa_, sz_, ss_, i64_w, i32_w]; rfl
          refine pu_ 11 (some 43) (br_ [12, 1, 3, 3, 3, 5]) HT_ ?_
          refine pu_ 12 (some 44) (br_ [16, 3, 3, 5]) HT_ ?_
          refine take_ (i := 16) (N := some 48) (v := ?_) (a' := ?_) (br_ [17, 2, 3, 5]) rfl rfl (take_ofW HT_.out HW_.out (by kernel_rfl)) (fun _ _ _ h => h) (Or.inl ⟨by rfl, ?_⟩) hHeld ?_ ?_
          rotate_left
          · rintro w' ⟨s0, s1, s2, s3⟩
            go_simp
            with_reducible rfl
          rotate_left
          · simp only [Act.put, sa_, sz_, ss_, i64_w, i32_w]; rfl
          refine pu_ 17 (some 49) (br_ [18, 1, 3, 5]) HT_ ?_
          refine pu_ 18 (some 50) (bq_ 22 5) HT_ ?_
          refine take_ (i := 22) (N := some 54) (v := ?_) (a' := ?_) (bq_ 23 4) rfl rfl (take_ofW HT_.out HW_.out (by kernel_rfl)) (fun _ _ _ h => h) (Or.inl ⟨by rfl, ?_⟩) hHeld ?_ ?_
          rotate_left
          · rintro w' ⟨s0, s1, s2, s3⟩
            go_simp
            with_reducible rfl
          rotate_left
          · simp only [Act.put, sa_, sz_, ss_, i64_w, i32_w]; rfl
          refine pu_ 23 (some 55) (bq_ 24 3) HT_ ?_
          refine on_ 24 (some 56) (bq_ 25 2) HT_ (fun K hK => ?_)
          refine Kd.R_lit_step (Kd.int .u8) _ 5 ?hg (N := 56) ?hd (xs := ([((rd x4_1 x8_2) / 16777216) % 256, ((rd x4_1 x8_2) / 65536) % 256, ((rd x4_1 x8_2) / 256) % 256, (rd x4_1 x8_2) % 256] : List Int)) (inner := [.int .u8 (((rd x4_1 x8_2) / 16777216) % 256), .int .u8 (((rd x4_1 x8_2) / 65536) % 256), .int .u8 (((rd x4_1 x8_2) / 256) % 256), .int .u8 ((rd x4_1 x8_2) % 256)]) (ok := fun _ => True) (okp := fun _ => True) ?hr ?hp (fun _ hk => hk) trivial (Below.refl _ _) (Nat.le_refl _) (by simp) ?_; (case hd => rfl); (case hg => rfl); (case hr => first | (go_simp; done) | (go_simp; rfl)); (case hp => exact (Reps.one (show Kd.M (Kd.int .u8) _ _ _ (((rd x4_1 x8_2) / 16777216) % 256) [.int .u8 (((rd x4_1 x8_2) / 16777216) % 256)] from rfl) (Reps.one (show Kd.M (Kd.int .u8) _ _ _ (((rd x4_1 x8_2) / 65536) % 256) [.int .u8 (((rd x4_1 x8_2) / 65536) % 256)] from rfl) (Reps.one (show Kd.M (Kd.int .u8) _ _ _ (((rd x4_1 x8_2) / 256) % 256) [.int .u8 (((rd x4_1 x8_2) / 256) % 256)] from rfl) (Reps.one (show Kd.M (Kd.int .u8) _ _ _ ((rd x4_1 x8_2) % 256) [.int .u8 ((rd x4_1 x8_2) % 256)] from rfl) (Reps.none _ _))))))
          intro v210 w27 ho28 hb hg_ hnew_
          have HS0_ := (hb.cell (World.block_lt_of_cell? _ _ (hHeld.1))).trans (hHeld.1)
          have HS1_ := (hb.cell (World.block_lt_of_cell? _ _ (hHeld.2.1))).trans (hHeld.2.1)
          have HS2_ := (hb.cell (World.block_lt_of_cell? _ _ (hHeld.2.2.1))).trans (hHeld.2.2.1)
          have HS3_ := (hb.cell (World.block_lt_of_cell? _ _ (hHeld.2.2.2))).trans (hHeld.2.2.2)
          clear hg_ hnew_
          (first | rw [← Ny209.out] at ho28 | (simp only [Int.reduceToNat] at ho28; rw [← Ny209.out] at ho28))
          replace HO_4 := q_ (Kd.R_below (kr_ HO_4.out) hb)
          have HO211 := q_ (Kd.R_lower (Kd.R_new' ho28 (Kd.R_lt (kr_ HO_7.out))) (below_size (be_ HB.out)))
          replace HO_7 := q_ (Kd.R_elder' (kr_ HO_7.out) (Kd.R_base ho28) hb)
          replace HB := q_ (below_step (be_ HB.out) hb)
          clear hb ho28
          obtain ⟨Ao30, co30, eo30⟩ := Kd.R_slice HO211.out
          (first | subst eo30 | (injection eo30 with f1_ f2_ f3_; have f4_ := f1_.symm; have f5_ := f3_.symm; clear f1_ f2_ f3_; subst f4_; subst f5_))
          refine hK.out _ _ ⟨HS0_, HS1_, HS2_, HS3_⟩ (fun hHeld => ?_)
          clear hK K
          refine nm_ ?_
          refine last_ (i := 25) (N := some 57) (bq_ 26 1) rfl rfl (one_of HT_.out (by kernel_rfl)) (by decide) (fun K hK => ?_)
          refine Kd.R_append_rows_step (Kd.int .u8) (w0 := w) w.heap.size (by rfl) (.tmp 32) (.tmp 56) 22 5 (.int .u8 0) 1 rfl Try.underlying22 info5 rfl (by decide) (by omega) u7 x7_2 y209 _ _ _ (fun k_ => some k_ ≠ (.slice Ao30 y209.length co30 : Value).ownBlock) (fun _ => False) rfl rfl ?aO ?aR (fun _ _ h => h) (fun _ h => h.elim) ?aF ?aB ?aS ?aL ?_
          (case aR => exact kc_ (Kd.R_reads' HO211.out).2.2)
          (case aB => exact (be_ HB.out))
          (case aF => exact (fun k_ hk => Kd.fresh' (Kd.R_lt (kr_ HO211.out)) k_ hk))
          (case aO => exact (by (with_reducible repeat (first | apply Kd.R_alloc | apply Kd.R_drewN | apply Kd.R_drew)); exact Kd.R_mono HO_7.out (fun _ hk => hk.2)))
          (case aS => exact (below_size (be_ HB.out)))
          (case aL => have := LMc24.out; omega)
          intro v213 w29 ho hb hg hat
          rw [← Ny212.out] at ho
          have n0_ := q_ (Kd.R_over' (kr_ HO_4.out) (Kd.R_typed (kr_ HO_7.out)) (by decide) hg)
          have n1_ := q_ (Kd.R_after (ok := (fun _ => True)) (kr_ HO211.out) hg hat)
          have n2_ := q_ (hb)
          have n3_ := q_ (ho)
          clear HO_4
          clear HO211
          clear HB
          clear HO_7
          have HO_4 := n0_
          have HO211 := n1_
          have HB := n2_
          have HO214 := n3_
          clear n0_ n1_ n2_ n3_
          clear ho hb hg hat
          refine hK.out _ _ ?_
          clear hK K
          refine nm_ ?_
          refine pu_ 26 (some 7) (bq_ 27 0) HT_ ?_
          refine done_ (done_of HT_.out (by kernel_rfl)) ?_
          try go_wp2
          go_roundg k2
          case measure => have := HK1.out; have := HK2.out; omega
          case rel => exact ⟨(y212), (wrap64 (x8_2 + 1)), rs_, H', ⟨by have := HK1.out; have := HK2.out; omega⟩, ⟨by (with_reducible repeat (first | apply Kd.R_alloc | apply Kd.R_drewN | apply Kd.R_drew)); exact HO_4.out⟩, ⟨by (with_reducible repeat (first | apply Kd.R_alloc | apply Kd.R_drewN | apply Kd.R_drew)); exact Kd.R_mono HO214.out (fun _ hk => trivial)⟩, ⟨be_ HB.out⟩⟩
        · rw [if_neg c21] at H
          have c21b0 : decide (x8_2 < 8) = false := decide_eq_false c21
          clear c21
          obtain rfl := Option.some.inj H
          have hcv31 := own_string (P := Try.prog) Try.underlying22 Try.underlying5 Try.underlying9 (Kd.own_of_R HO_7.out)
          go_wp2
          go_ret
          exact ⟨rf_, be_ HB.out⟩

/-! ###  spec_l4Half: function 92 -/
def spec_l4Half.l0 : Nat → Int → Int → Option (Int)
  | 0, _, _ => none
  | k + 1, x0, x3 => if (wrap64 (2 * x3)) < x0 then (spec_l4Half.l0 k x0 (wrap64 (2 * x3))) else (some x3)
def spec_l4Half.f (k : Nat) (a0 : Int) : Option (Int) := spec_l4Half.l0 k a0 1
set_option maxHeartbeats 8000000 in
set_option maxRecDepth 100000 in
theorem spec_l4Half.calls (k : Nat) (a0 : Int) (r : Int) (w : World) (h : spec_l4Half.f k a0 = some r) :
  Calls Try.prog 92 #[.int .i64 a0] w fun e w' => e = .returned (.int .i64 r) ∧ Drawn0 w w' := by
  have H : (spec_l4Half.l0 k a0 1) = some r := h
  clear h
  have H' := Aside0.mk H
  clear H
  go_enter Try.func92, Try.ntmps92
  go_wp2
  go_loopg [3] k (fun kq v3 w' => ∃ (x3_1 : Int), v3 = .int .i64 x3_1 ∧ Aside0 (spec_l4Half.l0 kq a0 x3_1 = some r) ∧ Aside0 (kq ≤ k) ∧ Drawn0 w w')
  case atStart => exact ⟨(1), rs_, H', ⟨Nat.le_refl _⟩, by repeat (first | exact Drawn0.refl _ | apply Drawn0.step)⟩
  case round =>
   clear H'
   obtain ⟨x3_1, rfl, HA, HK1, ⟨m1, rfl⟩⟩ := hrel
   cases gk with
   | zero => exact absurd HA.out (by simp [spec_l4Half.l0])
   | succ k1 =>
    have H := HA.out
    clear HA
    simp only [spec_l4Half.l0] at H
    by_cases c2 : (wrap64 (2 * x3_1)) < a0
    · rw [if_pos c2] at H
      have c2b0 : decide ((wrap64 (2 * x3_1)) < a0) = true := decide_eq_true c2
      clear c2
      have H' := Aside0.mk H
      clear H
      go_wp2
      go_roundg k1
      case measure => have := HK1.out; omega
      case rel => exact ⟨(wrap64 (2 * x3_1)), rs_, H', ⟨by have := HK1.out; omega⟩, by repeat (first | exact Drawn0.refl _ | apply Drawn0.step)⟩
    · rw [if_neg c2] at H
      have c2b0 : decide ((wrap64 (2 * x3_1)) < a0) = false := decide_eq_false c2
      clear c2
      obtain rfl := Option.some.inj H
      go_wp2
      go_ret
      exact ⟨rs_, by repeat (first | exact Drawn0.refl _ | apply Drawn0.step)⟩

/-! ###  spec_PutNum: function 126 -/
mutual
def spec_PutNum.j0 : Nat → Int → List Int → Option (List Int)
  | 0, _, _ => none
  | k + 1, x1, x5 => if x1 < 0 then (spec_PutNum.j1 k 0 x5) else (spec_PutNum.j1 k x1 x5)
def spec_PutNum.j1 : Nat → Int → List Int → Option (List Int)
  | 0, _, _ => none
  | k + 1, x1, x5 => spec_PutNum.l0 k x1 x5
def spec_PutNum.l0 : Nat → Int → List Int → Option (List Int)
  | 0, _, _ => none
  | k + 1, x1, x5 => if x1 > 127 then (if x5.length < 140737488355328 then (spec_PutNum.l0 k (x1 / 128) (x5 ++ [(Go.bits .or .i64 (Go.bits .and .i64 x1 127) 128) % 256])) else (none)) else (if x5.length < 140737488355328 then (some (x5 ++ [(x1) % 256])) else (none))
end
def spec_PutNum.f (k : Nat) (l0 : List Int) (a1 : Int) : Option (List Int) := (some (([] : List Int) : List Int)).bind fun y215 => (if y215.length + l0.length < 140737488355328 then ((some (y215 ++ l0 : List Int)).bind fun y218 => (if a1 > 1000000000 then (spec_PutNum.j0 k 1000000000 y218) else (spec_PutNum.j0 k a1 y218))) else (none))
set_option maxHeartbeats 8000000 in
set_option maxRecDepth 100000 in
theorem spec_PutNum.calls (k : Nat) (A0 : Option Addr) (c0 : Nat) (l0 : List Int) (a1 : Int) (r : List Int) (w : World) (hr0 : Kd.C (Kd.int .u8) w A0 l0.length l0) (hc0 : l0.length ≤ c0) (h : spec_PutNum.f k l0 a1 = some r) :
  Calls Try.prog 126 #[.slice A0 l0.length c0, .int .i64 a1] w fun e w' => ∃ v0_ : Value, e = .returned (v0_) ∧ Kd.R (Kd.int .u8) 5 w' w.heap.size (fun _ => True) v0_ r ∧ Below w.heap.size w w' := by
  have HR0 := Aside0.mk hr0
  have HC0 := Aside0.mk hc0
  clear hr0 hc0
  have HB := q_ (Below.refl w.heap.size w)
  have H : ((some (([] : List Int) : List Int)).bind fun y215 => (if y215.length + l0.length < 140737488355328 then ((some (y215 ++ l0 : List Int)).bind fun y218 => (if a1 > 1000000000 then (spec_PutNum.j0 k 1000000000 y218) else (spec_PutNum.j0 k a1 y218))) else (none))) = some r := h
  clear h
  obtain ⟨y215, hy215⟩ : ∃ y_ : List Int, y_ = (([] : List Int)) := ⟨_, rfl⟩
  replace H : (if y215.length + l0.length < 140737488355328 then ((some (y215 ++ l0 : List Int)).bind fun y218 => (if a1 > 1000000000 then (spec_PutNum.j0 k 1000000000 y218) else (spec_PutNum.j0 k a1 y218))) else (none)) = some r := ry_ hy215 H
  have Ny215 := Aside0.mk hy215
  clear hy215
  by_cases c3 : y215.length + l0.length < 140737488355328
  rotate_left
  · rw [if_neg c3] at H; exact absurd H (by simp)
  rw [if_pos c3] at H
  have LMc3 := Aside0.mk c3
  clear c3
  obtain ⟨y218, hy218⟩ : ∃ y_ : List Int, y_ = (y215 ++ l0) := ⟨_, rfl⟩
  replace H : (if a1 > 1000000000 then (spec_PutNum.j0 k 1000000000 y218) else (spec_PutNum.j0 k a1 y218)) = some r := ry_ hy218 H
  have Ny218 := Aside0.mk hy218
  clear hy218
  have HC4 := Aside0.mk H
  clear H
  go_enter Try.func126, Try.ntmps126
  go_upto_if 10 with (first | ((with_reducible refine gate_dst (N := 6) rfl ?_); refine Kd.R_lit (Kd.int .u8) _ 5 ?hg (N := 6) ?hd (xs := ([] : List Int)) (inner := []) (ok := fun _ => True) (okp := fun _ => True) ?hr ?hp (fun _ hk => hk) trivial (Below.refl _ _) (Nat.le_refl _) (by simp) ?_; (case hd => rfl); (case hg => rfl); (case hr => first | (go_simp; done) | (go_simp; rfl)); (case hp => exact (Reps.none _ _)); intro v216 w5 ho6 hb hg_ hnew_; clear hg_ hnew_; (first | rw [← Ny215.out] at ho6 | (simp only [Int.reduceToNat] at ho6; rw [← Ny215.out] at ho6)); have HO217 := q_ (Kd.R_lower ho6 (below_size (be_ HB.out))); replace HB := q_ (below_step (be_ HB.out) hb); clear hb ho6) | ((with_reducible refine gate_builtin (b := .append) (xs := #[.tmp 6, .tmp 7]) rfl ?_); at_builtin; refine Kd.R_append_rows (Kd.int .u8) (w0 := w) w.heap.size rfl (.tmp 6) (.tmp 7) 22 5 (.int .u8 0) 1 rfl Try.underlying22 info5 rfl (by decide) (by omega) v216 y215 l0 _ _ _ (fun _ => True) (fun _ => False) rfl rfl ?aO ?aR (fun _ _ h => h) (fun _ h => h.elim) ?aF ?aB ?aS ?aL ?_; (case aR => exact kc_ (Kd.C_below HR0.out HB.out)); (case aB => exact (be_ HB.out)); (case aF => exact (fun _ _ => trivial)); (case aO => exact (kr_ HO217.out)); (case aS => exact (below_size (be_ HB.out))); (case aL => have := LMc3.out; omega); intro v219 w7 ho hb hg hat; rw [← Ny218.out] at ho; have n0_ := q_ (hb); have n1_ := q_ (ho); clear HB; clear HO217; have HB := n0_; have HO220 := n1_; clear n0_ n1_; clear ho hb hg hat))
  (try simp only [Act.put, sa_, sz_, ss_])
  go_cut [1] (fun v1 wc => ∃ (kq : Nat) (x1_3 : Int), v1 = .int .i64 x1_3 ∧ Aside0 (spec_PutNum.j0 kq x1_3 y218 = some r) ∧ Aside0 (kq ≤ k) ∧ Aside0 (Kd.R (Kd.int .u8) 5 wc w.heap.size (fun _ => True) v219 y218) ∧ Aside0 (Below w.heap.size w wc))
  case first =>
   have H := HC4.out
   clear HC4
   by_cases c8 : a1 > 1000000000
   rotate_left
   · rw [if_neg c8] at H
     have c8b0 : decide (1000000000 < a1) = false := decide_eq_false c8
     clear c8
     (first | rw [c8b0] | (simp only [i64_w, i32_w]; rw [c8b0]) | skip)
     have H' := Aside0.mk H
     clear H
     go_wp2
     go_meet
     case rel => exact ⟨_, (a1), rs_, H', ⟨by first | omega | exact Nat.le_refl _⟩, ⟨by (with_reducible repeat (first | apply Kd.R_alloc | apply Kd.R_drewN | apply Kd.R_drew)); exact HO220.out⟩, ⟨be_ HB.out⟩⟩
   rw [if_pos c8] at H
   have c8b0 : decide (1000000000 < a1) = true := decide_eq_true c8
   clear c8
   (first | rw [c8b0] | (simp only [i64_w, i32_w]; rw [c8b0]) | skip)
   have H' := Aside0.mk H
   clear H
   go_wp2
   go_meet
   case rel => exact ⟨_, (1000000000), rs_, H', ⟨by first | omega | exact Nat.le_refl _⟩, ⟨by (with_reducible repeat (first | apply Kd.R_alloc | apply Kd.R_drewN | apply Kd.R_drew)); exact HO220.out⟩, ⟨be_ HB.out⟩⟩
  case rest =>
   clear HC4
   try clear c1
   try clear p2
   try clear c3
   try clear c8
   try clear c8b0
   obtain ⟨kq, x1_3, rfl, HA, HJ3, HO_5, HB⟩ := hcut
   cases kq with
   | zero => exact absurd HA.out (by simp [spec_PutNum.j0])
   | succ kj3 =>
    have H := HA.out
    clear HA
    simp only [spec_PutNum.j0] at H
    have HC9 := Aside0.mk H
    clear H
    go_upto_if 12 with (fail)
    go_cut [1] (fun v1 wc => ∃ (kq : Nat) (x1_8 : Int), v1 = .int .i64 x1_8 ∧ Aside0 (spec_PutNum.j1 kq x1_8 y218 = some r) ∧ Aside0 (kq ≤ kj3) ∧ Aside0 (Kd.R (Kd.int .u8) 5 wc w.heap.size (fun _ => True) v219 y218) ∧ Aside0 (Below w.heap.size w wc))
    case first =>
     have H := HC9.out
     clear HC9
     by_cases c10 : x1_3 < 0
     · rw [if_pos c10] at H
       have c10b0 : decide (x1_3 < 0) = true := decide_eq_true c10
       clear c10
       (first | rw [c10b0] | (simp only [i64_w, i32_w]; rw [c10b0]) | skip)
       have H' := Aside0.mk H
       clear H
       go_wp2
       go_meet
       case rel => exact ⟨_, (0), rs_, H', ⟨by have := HJ3.out; first | omega | exact Nat.le_refl _⟩, ⟨by (with_reducible repeat (first | apply Kd.R_alloc | apply Kd.R_drewN | apply Kd.R_drew)); exact HO_5.out⟩, ⟨be_ HB.out⟩⟩
     rw [if_neg c10] at H
     have c10b0 : decide (x1_3 < 0) = false := decide_eq_false c10
     clear c10
     (first | rw [c10b0] | (simp only [i64_w, i32_w]; rw [c10b0]) | skip)
     have H' := Aside0.mk H
     clear H
     go_wp2
     go_meet
     case rel => exact ⟨_, (x1_3), rs_, H', ⟨by have := HJ3.out; first | omega | exact Nat.le_refl _⟩, ⟨by (with_reducible repeat (first | apply Kd.R_alloc | apply Kd.R_drewN | apply Kd.R_drew)); exact HO_5.out⟩, ⟨be_ HB.out⟩⟩
    case rest =>
     clear HC9
     try clear c1
     try clear p2
     try clear c3
     try clear c8
     try clear c8b0
     try clear c10
     try clear c10b0
     try clear p2
     obtain ⟨kq, x1_8, rfl, HA, HJ8, HO_5, HB⟩ := hcut
     cases kq with
     | zero => exact absurd HA.out (by simp [spec_PutNum.j1])
     | succ kj8 =>
      have H := HA.out
      clear HA
      simp only [spec_PutNum.j1] at H
      have H' := Aside0.mk H
      clear H
      go_wp2
      go_loopg [1, 5] kj8 (fun kq v1 v5 w' => ∃ (x1_3 : Int) (x5_3 : List Int), v1 = .int .i64 x1_3 ∧ Aside0 (spec_PutNum.l0 kq x1_3 x5_3 = some r) ∧ Aside0 (kq ≤ kj8) ∧ Aside0 (Kd.R (Kd.int .u8) 5 w' w.heap.size (fun _ => True) v5 x5_3) ∧ Aside0 (Below w.heap.size w w'))
      case atStart => exact ⟨(x1_8), (y218), rs_, H', ⟨Nat.le_refl _⟩, ⟨by (with_reducible repeat (first | apply Kd.R_alloc | apply Kd.R_drewN | apply Kd.R_drew)); exact HO_5.out⟩, ⟨be_ HB.out⟩⟩
      case round =>
       clear H'
       try clear c1
       try clear p2
       try clear c3
       try clear c8
       try clear c8b0
       try clear c10
       try clear c10b0
       try clear p2
       obtain ⟨x1_3, x5_3, rfl, HA, HK3, HO_5, HB⟩ := hrel
       cases gk with
       | zero => exact absurd HA.out (by simp [spec_PutNum.l0])
       | succ k3 =>
        have H := HA.out
        clear HA
        simp only [spec_PutNum.l0] at H
        by_cases c11 : x1_3 > 127
        · rw [if_pos c11] at H
          have c11b0 : decide (127 < x1_3) = true := decide_eq_true c11
          clear c11
          by_cases c12 : x5_3.length < 140737488355328
          rotate_left
          · rw [if_neg c12] at H; exact absurd H (by simp)
          rw [if_pos c12] at H
          have LMc12 := Aside0.mk c12
          clear c12
          obtain ⟨y221, hy221⟩ : ∃ y_ : List Int, y_ = (x5_3 ++ [(Go.bits .or .i64 (Go.bits .and .i64 x1_3 127) 128) % 256]) := ⟨_, rfl⟩
          replace H : (spec_PutNum.l0 k3 (x1_3 / 128) y221) = some r := ry_ hy221 H
          have Ny221 := Aside0.mk hy221
          clear hy221
          have H' := Aside0.mk H
          clear H
          go_wp2_with (first | ((with_reducible refine gate_builtin (b := .append) (xs := #[.tmp 15, .tmp 20]) rfl ?_); at_builtin; refine Kd.R_append (Kd.int .u8) (w0 := w) w.heap.size rfl (.tmp 15) (.tmp 20) 22 5 (.int .u8 0) 1 rfl Try.underlying22 info5 rfl (by decide) (by omega) u5 x5_3 ((Go.bits .or .i64 (Go.bits .and .i64 x1_3 127) 128) % 256) [.int .u8 ((Go.bits .or .i64 (Go.bits .and .i64 x1_3 127) 128) % 256)] (fun _ => True) (fun _ => False) rfl rfl ?aP (fun _ hk => hk.elim) ?aF ?aO ?aB ?aS ?aL ?_; (case aP => exact rfl); (case aB => exact (be_ HB.out)); (case aF => exact (fun _ _ => trivial)); (case aO => exact (kr_ HO_5.out)); (case aS => exact (below_size (be_ HB.out))); (case aL => have := LMc12.out; omega); intro v222 w13 ho hb hg hat; rw [← Ny221.out] at ho; have n0_ := q_ (hb); have n1_ := q_ (ho); clear HB; clear HO_5; have HB := n0_; have HO223 := n1_; clear n0_ n1_; clear ho hb hg hat))
          go_roundg k3
          case measure => have := HJ3.out; have := HJ8.out; have := HK3.out; omega
          case rel => exact ⟨(x1_3 / 128), (y221), rs_, H', ⟨by have := HJ3.out; have := HJ8.out; have := HK3.out; omega⟩, ⟨by (with_reducible repeat (first | apply Kd.R_alloc | apply Kd.R_drewN | apply Kd.R_drew)); exact HO223.out⟩, ⟨be_ HB.out⟩⟩
        · rw [if_neg c11] at H
          have c11b0 : decide (127 < x1_3) = false := decide_eq_false c11
          clear c11
          by_cases c14 : x5_3.length < 140737488355328
          rotate_left
          · rw [if_neg c14] at H; exact absurd H (by simp)
          rw [if_pos c14] at H
          have LMc14 := Aside0.mk c14
          clear c14
          obtain ⟨y224, hy224⟩ : ∃ y_ : List Int, y_ = (x5_3 ++ [(x1_3) % 256]) := ⟨_, rfl⟩
          replace H : (some y224) = some r := ry_ hy224 H
          have Ny224 := Aside0.mk hy224
          clear hy224
          obtain rfl := Option.some.inj H
          go_wp2_with (first | ((with_reducible refine gate_builtin (b := .append) (xs := #[.tmp 24, .tmp 27]) rfl ?_); at_builtin; refine Kd.R_append (Kd.int .u8) (w0 := w) w.heap.size rfl (.tmp 24) (.tmp 27) 22 5 (.int .u8 0) 1 rfl Try.underlying22 info5 rfl (by decide) (by omega) u5 x5_3 ((x1_3) % 256) [.int .u8 ((x1_3) % 256)] (fun _ => True) (fun _ => False) rfl rfl ?aP (fun _ hk => hk.elim) ?aF ?aO ?aB ?aS ?aL ?_; (case aP => exact rfl); (case aB => exact (be_ HB.out)); (case aF => exact (fun _ _ => trivial)); (case aO => exact (kr_ HO_5.out)); (case aS => exact (below_size (be_ HB.out))); (case aL => have := LMc14.out; omega); intro v225 w15 ho hb hg hat; rw [← Ny224.out] at ho; have n0_ := q_ (hb); have n1_ := q_ (ho); clear HB; clear HO_5; have HB := n0_; have HO226 := n1_; clear n0_ n1_; clear ho hb hg hat))
          go_ret
          exact ⟨_, rf_, by (with_reducible repeat (first | apply Kd.R_alloc | apply Kd.R_drewN | apply Kd.R_drew)); exact HO226.out, be_ HB.out⟩

/-! ###  spec_PutText: function 105 -/
def spec_PutText.f (k : Nat) (l0 : List Int) (a1 : ByteArray) : Option (List Int) := (spec_PutNum.f k l0 (a1.size : Int)).bind fun t227 => (if t227.length + a1.size < 140737488355328 then (some (t227 ++ bytesOf a1)) else (none))
set_option maxHeartbeats 8000000 in
set_option maxRecDepth 100000 in
theorem spec_PutText.calls (k : Nat) (A0 : Option Addr) (c0 : Nat) (l0 : List Int) (a1 : ByteArray) (r : List Int) (w : World) (hr0 : Kd.C (Kd.int .u8) w A0 l0.length l0) (hc0 : l0.length ≤ c0) (h : spec_PutText.f k l0 a1 = some r) :
  Calls Try.prog 105 #[.slice A0 l0.length c0, .string a1] w fun e w' => ∃ v0_ : Value, e = .returned (v0_) ∧ Kd.R (Kd.int .u8) 5 w' w.heap.size (fun _ => True) v0_ r ∧ Below w.heap.size w w' := by
  have HR0 := Aside0.mk hr0
  have HC0 := Aside0.mk hc0
  clear hr0 hc0
  have HB := q_ (Below.refl w.heap.size w)
  have H : ((spec_PutNum.f k l0 (a1.size : Int)).bind fun t227 => (if t227.length + a1.size < 140737488355328 then (some (t227 ++ bytesOf a1)) else (none))) = some r := h
  clear h
  replace H := Option.bind_eq_some_iff.mp H
  obtain ⟨t227, A30, H⟩ := H
  have A3 := Aside0.mk A30
  clear A30
  by_cases c4 : t227.length + a1.size < 140737488355328
  rotate_left
  · rw [if_neg c4] at H; exact absurd H (by simp)
  rw [if_pos c4] at H
  have LMc4 := Aside0.mk c4
  clear c4
  obtain ⟨y230, hy230⟩ : ∃ y_ : List Int, y_ = (t227 ++ bytesOf a1) := ⟨_, rfl⟩
  replace H : (some y230) = some r := ry_ hy230 H
  have Ny230 := Aside0.mk hy230
  clear hy230
  obtain rfl := Option.some.inj H
  go_enter Try.func105, Try.ntmps105
  go_wp2_with (first | ((with_reducible refine gate_callee (f := 126) rfl ?_); refine gl_ (some 8) Try.func126 #[.slice A0 l0.length c0, .int .i64 (a1.size : Int)] rfl al_ ?_; (with_reducible refine (spec_PutNum.calls k _ _ l0 (a1.size : Int) t227 _ ?side1 ?side2 A3.out).mono ?_); (case side1 => exact kc_ HR0.out); (case side2 => exact HC0.out); rintro e w5 ⟨v228, rfl, ho0, hb⟩; refine ⟨_, rfl, ?_⟩; have HO229 := q_ (Kd.R_lower ho0 (below_size (be_ HB.out))); replace HB := q_ (below_step (be_ HB.out) hb); (try clear hb); (try clear ho0)) | ((with_reducible refine gate_builtin (b := .append) (xs := #[.tmp 8, _]) rfl ?_); at_builtin; refine Kd.R_append_str (w0 := w) w.heap.size rfl (.tmp 8) _ 22 9 5 rfl Try.underlying22 Try.underlying9 info5 v228 t227 a1 (fun _ => True) rfl rfl ?aF ?aO ?aB ?aS ?aL ?_; (case aB => exact (be_ HB.out)); (case aF => exact (fun _ _ => trivial)); (case aO => exact (kr_ HO229.out)); (case aS => exact (below_size (be_ HB.out))); (case aL => have := LMc4.out; omega); intro v231 w6 ho hb hg hat; rw [← Ny230.out] at ho; have n0_ := q_ (hb); have n1_ := q_ (ho); clear HB; clear HO229; have HB := n0_; have HO232 := n1_; clear n0_ n1_; clear ho hb hg hat))
  go_ret
  exact ⟨_, rf_, by (with_reducible repeat (first | apply Kd.R_alloc | apply Kd.R_drewN | apply Kd.R_drew)); exact HO232.out, be_ HB.out⟩

/-! ###  spec_l4Leaf: function 63 -/
def spec_l4Leaf.f (k : Nat) (a0_0 : ByteArray) (a0_1 : ByteArray) : Option (List Int) := (spec_PutText.f k (([0] : List Int)) a0_0).bind fun t237 => ((spec_PutText.f k t237 a0_1).bind fun t240 => (some t240))
def spec_l4Leaf.T1 : Bool × List (List Nat × List Nat) := (true, [([], []), ([], []), ([1], [1]), ([0, 2], [0, 2]), ([], []), ([4], [4]), ([3, 5, 3], [3, 5]), ([6, 6, 0, 1, 2, 3, 4, 5, 6], [6])])
def spec_l4Leaf.B1 : List Nat := [0, 0, 2, 7, 0, 16, 63, 127]
theorem spec_l4Leaf.tab1 : rtab .any (opsOf Try.f63 1) = spec_l4Leaf.T1 := by kernel_rfl
theorem spec_l4Leaf.bits1 : waitsOk spec_l4Leaf.T1.2 spec_l4Leaf.B1 = true := by kernel_rfl
set_option maxHeartbeats 8000000 in
set_option maxRecDepth 100000 in
theorem spec_l4Leaf.calls (k : Nat) (a0_0 : ByteArray) (a0_1 : ByteArray) (r : List Int) (w : World) (h : spec_l4Leaf.f k a0_0 a0_1 = some r) :
  Calls Try.prog 63 #[.agg #[.string a0_0, .string a0_1]] w fun e w' => ∃ v0_ : Value, e = .returned (v0_) ∧ Kd.R (Kd.int .u8) 5 w' w.heap.size (fun _ => True) v0_ r ∧ Below w.heap.size w w' := by
  have hu26 := Try.underlying26
  have HB := q_ (Below.refl w.heap.size w)
  have H : ((spec_PutText.f k (([0] : List Int)) a0_0).bind fun t237 => ((spec_PutText.f k t237 a0_1).bind fun t240 => (some t240))) = some r := h
  clear h
  obtain ⟨y234, hy234⟩ : ∃ y_ : List Int, y_ = (([0] : List Int)) := ⟨_, rfl⟩
  replace H : ((spec_PutText.f k y234 a0_0).bind fun t237 => ((spec_PutText.f k t237 a0_1).bind fun t240 => (some t240))) = some r := ry_ hy234 H
  have Ny234 := Aside0.mk hy234
  clear hy234
  replace H := Option.bind_eq_some_iff.mp H
  obtain ⟨t237, A20, H⟩ := H
  have A2 := Aside0.mk A20
  clear A20
  replace H := Option.bind_eq_some_iff.mp H
  obtain ⟨t240, A30, H⟩ := H
  have A3 := Aside0.mk A30
  clear A30
  obtain rfl := Option.some.inj H
  go_enter Try.func63, Try.ntmps63
  try go_wp2_with (first | ((with_reducible refine gate_dst (N := 1) rfl ?_); refine box_event rfl (N := 1) rfl (cs := #[.string a0_0, .string a0_1]) (t := 26) hr_ ?_; intro gb233 hg w4 hbox hb; have BK233 := q_ (hbox); have GW233 := q_ ((by rw [hg]; exact (below_size (be_ HB.out)) : w.heap.size ≤ gb233)); have GE233 := q_ ((by rw [hg]; exact (below_size (be_ HB.out)) : w.heap.size ≤ gb233)); replace HB := q_ (below_step (be_ HB.out) hb); clear hb hbox hg))
  replace BK233 := q_ (blk_drew BK233.out)
  replace HB := q_ (below_drew1 HB.out)
  refine start_ (n := 8) (S := fun w' => w'.cell? ⟨gb233, 0, none⟩ = some (.string a0_0) ∧ w'.cell? ⟨gb233, 1, none⟩ = some (.string a0_1)) (ds := []) (bq_ 0 8) (by kernel_rfl) rfl rfl ⟨(blk_cell BK233.out 0).trans rfl, (blk_cell BK233.out 1).trans rfl⟩ (fun hHeld => ?_); refine with_tabW spec_l4Leaf.tab1 spec_l4Leaf.bits1 (fun HT_ HW_ => ?_)
  generalize w4.drew = w5 at BK233 HB hHeld ⊢
  refine pu_ 1 (some 4) (br_ [0, 1, 1, 6]) HT_ ?_
  refine pu_ 4 (some 7) (br_ [0, 1, 1, 2, 1, 3]) HT_ ?_
  refine take_ (i := 2) (N := some 5) (v := ?_) (a' := ?_) (br_ [0, 1, 2, 1, 1, 3]) rfl rfl (take_ofW HT_.out HW_.out (by kernel_rfl)) (fun _ _ _ h => h) (Or.inl ⟨by rfl, ?_⟩) hHeld ?_ ?_
  rotate_left
  · rintro w' ⟨s0, s1⟩
    go_simp
    with_reducible rfl
  rotate_left
  · simp only [Act.put, sa_, sz_, ss_, i64_w, i32_w]; rfl
  refine take_ (i := 5) (N := some 8) (v := ?_) (a' := ?_) (br_ [0, 1, 2, 1, 2, 2]) rfl rfl (take_ofW HT_.out HW_.out (by kernel_rfl)) (fun _ _ _ h => h) (Or.inl ⟨by rfl, ?_⟩) hHeld ?_ ?_
  rotate_left
  · rintro w' ⟨s0, s1⟩
    go_simp
    with_reducible rfl
  rotate_left
  · simp only [Act.put, sa_, sz_, ss_, i64_w, i32_w]; rfl
  refine on_ 0 (some 3) (br_ [3, 1, 2, 2]) HT_ (fun K hK => ?_)
  refine Kd.R_lit_step (Kd.int .u8) _ 5 ?hg (N := 3) ?hd (xs := ([0] : List Int)) (inner := [.int .u8 0]) (ok := fun _ => True) (okp := fun _ => True) ?hr ?hp (fun _ hk => hk) trivial (Below.refl _ _) (Nat.le_refl _) (by simp) ?_; (case hd => rfl); (case hg => rfl); (case hr => first | (go_simp; done) | (go_simp; rfl)); (case hp => exact (Reps.one (show Kd.M (Kd.int .u8) _ _ _ 0 [.int .u8 0] from rfl) (Reps.none _ _)))
  intro v235 w6 ho7 hb hg_ hnew_
  clear hg_ hnew_
  (first | rw [← Ny234.out] at ho7 | (simp only [Int.reduceToNat] at ho7; rw [← Ny234.out] at ho7))
  have HO236 := q_ (Kd.R_lower ho7 (below_size (bs_ HB.out GE233.out)))
  replace BK233 := q_ (bb_ BK233.out hb)
  replace HB := q_ (below_step (bs_ HB.out GE233.out) hb)
  clear hb ho7
  obtain ⟨Ao8, co8, eo8⟩ := Kd.R_slice HO236.out
  (first | subst eo8 | (injection eo8 with f1_ f2_ f3_; have f4_ := f1_.symm; have f5_ := f3_.symm; clear f1_ f2_ f3_; subst f4_; subst f5_))
  refine hK.out _ _ ⟨(blk_cell BK233.out 0).trans rfl, (blk_cell BK233.out 1).trans rfl⟩ (fun hHeld => ?_)
  clear hK K
  refine nm_ ?_
  refine on_ 3 (some 6) (bq_ 6 2) HT_ (fun K hK => ?_)
  refine goes_ Try.func105 (by kernel_rfl) rfl #[.slice Ao8 y234.length co8, .string a0_0] (by rfl) rfl rfl al_ ?_
  with_reducible refine (spec_PutText.calls k _ _ y234 a0_0 t237 _ ?side1 ?side2 A2.out).mono ?_
  (case side1 => exact kc_ (Kd.R_reads' HO236.out).2.2)
  (case side2 => exact (Kd.R_reads' HO236.out).2.1)
  rintro e w9 ⟨v238, rfl, ho0, hb⟩
  refine ⟨_, rfl, ?_⟩
  have HO239 := q_ (Kd.R_lower (Kd.R_new' ho0 (Kd.R_lt (kr_ HO236.out))) (below_size (bs_ HB.out GE233.out)))
  replace HO236 := q_ (Kd.R_elder' (kr_ HO236.out) (Kd.R_base ho0) hb)
  replace BK233 := q_ (bb_ BK233.out hb)
  replace HB := q_ (below_step (bs_ HB.out GE233.out) hb)
  (try clear hb)
  (try clear hb2)
  (try clear hk)
  (try clear hi)
  (try clear ho0)
  obtain ⟨Ao10, co10, eo10⟩ := Kd.R_slice HO239.out
  (first | subst eo10 | (injection eo10 with f1_ f2_ f3_; have f4_ := f1_.symm; have f5_ := f3_.symm; clear f1_ f2_ f3_; subst f4_; subst f5_))
  refine hK.out _ _ ⟨(blk_cell BK233.out 0).trans rfl, (blk_cell BK233.out 1).trans rfl⟩ (fun hHeld => ?_)
  clear hK K
  refine nm_ ?_
  refine on_ 6 (some 9) (bq_ 7 1) HT_ (fun K hK => ?_)
  refine goes_ Try.func105 (by kernel_rfl) rfl #[.slice Ao10 t237.length co10, .string a0_1] (by rfl) rfl rfl al_ ?_
  with_reducible refine (spec_PutText.calls k _ _ t237 a0_1 t240 _ ?side1 ?side2 A3.out).mono ?_
  (case side1 => exact kc_ (Kd.R_reads' HO239.out).2.2)
  (case side2 => exact (Kd.R_reads' HO239.out).2.1)
  rintro e w11 ⟨v241, rfl, ho0, hb⟩
  refine ⟨_, rfl, ?_⟩
  have HO242 := q_ (Kd.R_lower (Kd.R_new' (Kd.R_new' ho0 (Kd.R_lt (kr_ HO236.out))) (Kd.R_lt (kr_ HO239.out))) (below_size (bs_ HB.out GE233.out)))
  replace HO236 := q_ (Kd.R_elder' (kr_ HO236.out) (Kd.R_base ho0) hb)
  replace HO239 := q_ (Kd.R_elder' (kr_ HO239.out) (Kd.R_base ho0) hb)
  replace BK233 := q_ (bb_ BK233.out hb)
  replace HB := q_ (below_step (bs_ HB.out GE233.out) hb)
  (try clear hb)
  (try clear hb2)
  (try clear hk)
  (try clear hi)
  (try clear ho0)
  refine hK.out _ _ ⟨(blk_cell BK233.out 0).trans rfl, (blk_cell BK233.out 1).trans rfl⟩ (fun hHeld => ?_)
  clear hK K
  refine nm_ ?_
  refine pu_ 7 (some 2) (bq_ 8 0) HT_ ?_
  refine done_ (done_of HT_.out (by kernel_rfl)) ?_
  try go_wp2
  go_ret
  exact ⟨_, rf_, by (with_reducible repeat (first | apply Kd.R_alloc | apply Kd.R_drewN | apply Kd.R_drew)); exact Kd.R_mono HO242.out (fun _ hk => trivial), bs_ HB.out GE233.out⟩

/-! ###  spec_LeafOf: function 119 -/
def spec_LeafOf.f (k : Nat) (a0_0 : ByteArray) (a0_1 : ByteArray) : Option (ByteArray) := (spec_l4Leaf.f k a0_0 a0_1).bind fun t244 => ((spec_Digest.f k t244).bind fun t247 => (some t247))
set_option maxHeartbeats 8000000 in
set_option maxRecDepth 100000 in
theorem spec_LeafOf.calls (k : Nat) (a0_0 : ByteArray) (a0_1 : ByteArray) (r : ByteArray) (w : World) (h : spec_LeafOf.f k a0_0 a0_1 = some r) :
  Calls Try.prog 119 #[.agg #[.string a0_0, .string a0_1]] w fun e w' => e = .returned (.string r) ∧ Below w.heap.size w w' := by
  have hu26 := Try.underlying26
  have HB := q_ (Below.refl w.heap.size w)
  have H : ((spec_l4Leaf.f k a0_0 a0_1).bind fun t244 => ((spec_Digest.f k t244).bind fun t247 => (some t247))) = some r := h
  clear h
  replace H := Option.bind_eq_some_iff.mp H
  obtain ⟨t244, A20, H⟩ := H
  have A2 := Aside0.mk A20
  clear A20
  replace H := Option.bind_eq_some_iff.mp H
  obtain ⟨t247, A30, H⟩ := H
  have A3 := Aside0.mk A30
  clear A30
  obtain rfl := Option.some.inj H
  go_enter Try.func119, Try.ntmps119
  go_wp2_with (first | ((with_reducible refine gate_dst (N := 1) rfl ?_); refine box_event rfl (N := 1) rfl (cs := #[.string a0_0, .string a0_1]) (t := 26) hr_ ?_; intro gb243 hg w4 hbox hb; have BK243 := q_ (hbox); have GW243 := q_ ((by rw [hg]; exact (below_size (be_ HB.out)) : w.heap.size ≤ gb243)); have GE243 := q_ ((by rw [hg]; exact (below_size (be_ HB.out)) : w.heap.size ≤ gb243)); replace HB := q_ (below_step (be_ HB.out) hb); clear hb hbox hg; obtain ⟨hcz5_0, hcz5_1, hfz5_0, hfz5_1⟩ := bx2_ BK243.out) | ((with_reducible refine gate_callee (f := 63) rfl ?_); refine gl_ (some 4) Try.func63 #[.agg #[.string a0_0, .string a0_1]] rfl al_ ?_; (with_reducible refine (spec_l4Leaf.calls k a0_0 a0_1 t244 _ A2.out).mono ?_); rintro e w6 ⟨v245, rfl, ho0, hb⟩; refine ⟨_, rfl, ?_⟩; have HO246 := q_ (Kd.R_lower ho0 (below_size (bs_ HB.out GE243.out))); replace BK243 := q_ (bb_ BK243.out hb); replace HB := q_ (below_step (bs_ HB.out GE243.out) hb); (try clear hb); (try clear ho0); obtain ⟨Ao7, co7, eo7⟩ := Kd.R_slice HO246.out; subst eo7) | ((with_reducible refine gate_callee (f := 53) rfl ?_); refine gl_ (some 5) Try.func53 #[.slice Ao7 t244.length co7] rfl al_ ?_; (with_reducible refine (spec_Digest.calls k _ _ t244 t247 _ ?side1 ?side2 A3.out).mono ?_); (case side1 => exact kc_ (Kd.R_reads' HO246.out).2.2); (case side2 => exact (Kd.R_reads' HO246.out).2.1); rintro e w8 ⟨rfl, hb⟩; refine ⟨_, rfl, ?_⟩; replace HO246 := q_ (Kd.R_below (kr_ HO246.out) hb); replace BK243 := q_ (bb_ BK243.out hb); replace HB := q_ (below_step (bs_ HB.out GE243.out) hb); (try clear hb)))
  go_ret
  exact ⟨rf_, bs_ HB.out GE243.out⟩

/-! ###  spec_l4Node: function 125 -/
def spec_l4Node.f (a0 : ByteArray) (a1 : ByteArray) : Option (List Int) := (some (([1] : List Int) : List Int)).bind fun y248 => (if y248.length + a0.size < 140737488355328 then ((some (y248 ++ bytesOf a0 : List Int)).bind fun y251 => (if y251.length + a1.size < 140737488355328 then (some (y251 ++ bytesOf a1)) else (none))) else (none))
set_option maxHeartbeats 8000000 in
set_option maxRecDepth 100000 in
theorem spec_l4Node.calls (a0 : ByteArray) (a1 : ByteArray) (r : List Int) (w : World) (h : spec_l4Node.f a0 a1 = some r) :
  Calls Try.prog 125 #[.string a0, .string a1] w fun e w' => ∃ v0_ : Value, e = .returned (v0_) ∧ Kd.R (Kd.int .u8) 5 w' w.heap.size (fun _ => True) v0_ r ∧ Below w.heap.size w w' := by
  have HB := q_ (Below.refl w.heap.size w)
  have H : ((some (([1] : List Int) : List Int)).bind fun y248 => (if y248.length + a0.size < 140737488355328 then ((some (y248 ++ bytesOf a0 : List Int)).bind fun y251 => (if y251.length + a1.size < 140737488355328 then (some (y251 ++ bytesOf a1)) else (none))) else (none))) = some r := h
  clear h
  obtain ⟨y248, hy248⟩ : ∃ y_ : List Int, y_ = (([1] : List Int)) := ⟨_, rfl⟩
  replace H : (if y248.length + a0.size < 140737488355328 then ((some (y248 ++ bytesOf a0 : List Int)).bind fun y251 => (if y251.length + a1.size < 140737488355328 then (some (y251 ++ bytesOf a1)) else (none))) else (none)) = some r := ry_ hy248 H
  have Ny248 := Aside0.mk hy248
  clear hy248
  by_cases c3 : y248.length + a0.size < 140737488355328
  rotate_left
  · rw [if_neg c3] at H; exact absurd H (by simp)
  rw [if_pos c3] at H
  have LMc3 := Aside0.mk c3
  clear c3
  obtain ⟨y251, hy251⟩ : ∃ y_ : List Int, y_ = (y248 ++ bytesOf a0) := ⟨_, rfl⟩
  replace H : (if y251.length + a1.size < 140737488355328 then (some (y251 ++ bytesOf a1)) else (none)) = some r := ry_ hy251 H
  have Ny251 := Aside0.mk hy251
  clear hy251
  by_cases c4 : y251.length + a1.size < 140737488355328
  rotate_left
  · rw [if_neg c4] at H; exact absurd H (by simp)
  rw [if_pos c4] at H
  have LMc4 := Aside0.mk c4
  clear c4
  obtain ⟨y254, hy254⟩ : ∃ y_ : List Int, y_ = (y251 ++ bytesOf a1) := ⟨_, rfl⟩
  replace H : (some y254) = some r := ry_ hy254 H
  have Ny254 := Aside0.mk hy254
  clear hy254
  obtain rfl := Option.some.inj H
  go_enter Try.func125, Try.ntmps125
  go_wp2_with (first | ((with_reducible refine gate_dst (N := 5) rfl ?_); refine Kd.R_lit (Kd.int .u8) _ 5 ?hg (N := 5) ?hd (xs := ([1] : List Int)) (inner := [.int .u8 1]) (ok := fun _ => True) (okp := fun _ => True) ?hr ?hp (fun _ hk => hk) trivial (Below.refl _ _) (Nat.le_refl _) (by simp) ?_; (case hd => rfl); (case hg => rfl); (case hr => first | (go_simp; done) | (go_simp; rfl)); (case hp => exact (Reps.one (show Kd.M (Kd.int .u8) _ _ _ 1 [.int .u8 1] from rfl) (Reps.none _ _))); intro v249 w5 ho6 hb hg_ hnew_; clear hg_ hnew_; (first | rw [← Ny248.out] at ho6 | (simp only [Int.reduceToNat] at ho6; rw [← Ny248.out] at ho6)); have HO250 := q_ (Kd.R_lower ho6 (below_size (be_ HB.out))); replace HB := q_ (below_step (be_ HB.out) hb); clear hb ho6) | ((with_reducible refine gate_builtin (b := .append) (xs := #[.tmp 5, _]) rfl ?_); at_builtin; refine Kd.R_append_str (w0 := w) w.heap.size rfl (.tmp 5) _ 22 9 5 rfl Try.underlying22 Try.underlying9 info5 v249 y248 a0 (fun _ => True) rfl rfl ?aF ?aO ?aB ?aS ?aL ?_; (case aB => exact (be_ HB.out)); (case aF => exact (fun _ _ => trivial)); (case aO => exact (kr_ HO250.out)); (case aS => exact (below_size (be_ HB.out))); (case aL => have := LMc3.out; omega); intro v252 w7 ho hb hg hat; rw [← Ny251.out] at ho; have n0_ := q_ (hb); have n1_ := q_ (ho); clear HB; clear HO250; have HB := n0_; have HO253 := n1_; clear n0_ n1_; clear ho hb hg hat) | ((with_reducible refine gate_builtin (b := .append) (xs := #[.tmp 7, _]) rfl ?_); at_builtin; refine Kd.R_append_str (w0 := w) w.heap.size rfl (.tmp 7) _ 22 9 5 rfl Try.underlying22 Try.underlying9 info5 v252 y251 a1 (fun _ => True) rfl rfl ?aF ?aO ?aB ?aS ?aL ?_; (case aB => exact (be_ HB.out)); (case aF => exact (fun _ _ => trivial)); (case aO => exact (kr_ HO253.out)); (case aS => exact (below_size (be_ HB.out))); (case aL => have := LMc4.out; omega); intro v255 w8 ho hb hg hat; rw [← Ny254.out] at ho; have n0_ := q_ (hb); have n1_ := q_ (ho); clear HB; clear HO253; have HB := n0_; have HO256 := n1_; clear n0_ n1_; clear ho hb hg hat))
  go_ret
  exact ⟨_, rf_, by (with_reducible repeat (first | apply Kd.R_alloc | apply Kd.R_drewN | apply Kd.R_drew)); exact HO256.out, be_ HB.out⟩

/-! ###  spec_NodeOf: function 120 -/
def spec_NodeOf.f (k : Nat) (a0 : ByteArray) (a1 : ByteArray) : Option (ByteArray) := (spec_l4Node.f a0 a1).bind fun t257 => ((spec_Digest.f k t257).bind fun t260 => (some t260))
set_option maxHeartbeats 8000000 in
set_option maxRecDepth 100000 in
theorem spec_NodeOf.calls (k : Nat) (a0 : ByteArray) (a1 : ByteArray) (r : ByteArray) (w : World) (h : spec_NodeOf.f k a0 a1 = some r) :
  Calls Try.prog 120 #[.string a0, .string a1] w fun e w' => e = .returned (.string r) ∧ Below w.heap.size w w' := by
  have HB := q_ (Below.refl w.heap.size w)
  have H : ((spec_l4Node.f a0 a1).bind fun t257 => ((spec_Digest.f k t257).bind fun t260 => (some t260))) = some r := h
  clear h
  replace H := Option.bind_eq_some_iff.mp H
  obtain ⟨t257, A30, H⟩ := H
  have A3 := Aside0.mk A30
  clear A30
  replace H := Option.bind_eq_some_iff.mp H
  obtain ⟨t260, A40, H⟩ := H
  have A4 := Aside0.mk A40
  clear A40
  obtain rfl := Option.some.inj H
  go_enter Try.func120, Try.ntmps120
  go_wp2_with (first | ((with_reducible refine gate_callee (f := 125) rfl ?_); refine gl_ (some 7) Try.func125 #[.string a0, .string a1] rfl al_ ?_; (with_reducible refine (spec_l4Node.calls a0 a1 t257 _ A3.out).mono ?_); rintro e w5 ⟨v258, rfl, ho0, hb⟩; refine ⟨_, rfl, ?_⟩; have HO259 := q_ (Kd.R_lower ho0 (below_size (be_ HB.out))); replace HB := q_ (below_step (be_ HB.out) hb); (try clear hb); (try clear ho0); obtain ⟨Ao6, co6, eo6⟩ := Kd.R_slice HO259.out; subst eo6) | ((with_reducible refine gate_callee (f := 53) rfl ?_); refine gl_ (some 8) Try.func53 #[.slice Ao6 t257.length co6] rfl al_ ?_; (with_reducible refine (spec_Digest.calls k _ _ t257 t260 _ ?side1 ?side2 A4.out).mono ?_); (case side1 => exact kc_ (Kd.R_reads' HO259.out).2.2); (case side2 => exact (Kd.R_reads' HO259.out).2.1); rintro e w7 ⟨rfl, hb⟩; refine ⟨_, rfl, ?_⟩; replace HO259 := q_ (Kd.R_below (kr_ HO259.out) hb); replace HB := q_ (below_step (be_ HB.out) hb); (try clear hb)))
  go_ret
  exact ⟨rf_, be_ HB.out⟩

/-! ###  spec_l4Inner: function 93 -/
def spec_l4Inner.f : Nat → List (S26) → Option (ByteArray)
  | 0, _ => none
  | k + 1, l0 => if (l0.length : Int) = 0 then ((spec_Digest.f k (([] : List Int))).bind fun t264 => (some t264)) else (if (l0.length : Int) = 1 then (if 0 < (l0.length : Int) then ((spec_LeafOf.f k ((rd_T26 l0 0).f0) ((rd_T26 l0 0).f1)).bind fun t266 => (some t266)) else (none)) else ((spec_l4Half.f k (l0.length : Int)).bind fun t267 => (if 0 ≤ t267 then (if t267 ≤ (l0.length : Int) then ((spec_l4Inner.f k (l0.take (t267 : Int).toNat)).bind fun t272 => ((spec_l4Inner.f k (l0.drop (t267 : Int).toNat)).bind fun t277 => ((spec_NodeOf.f k t272 t277).bind fun t278 => (some t278)))) else (none)) else (none))))
def spec_l4Inner.T7 : Bool × List (List Nat × List Nat) := (true, [([], []), ([], []), ([0, 1], [0, 1]), ([2], [2]), ([], []), ([], []), ([4, 5], [4, 5]), ([6, 3], [6]), ([3, 7, 7], [3, 7]), ([8, 8, 0, 1, 2, 3, 4, 5, 6, 7, 8], [8])])
def spec_l4Inner.B7 : List Nat := [0, 0, 3, 7, 0, 0, 48, 127, 255, 511]
theorem spec_l4Inner.tab7 : rtab .any (opsOf Try.f93 7) = spec_l4Inner.T7 := by kernel_rfl
theorem spec_l4Inner.bits7 : waitsOk spec_l4Inner.T7.2 spec_l4Inner.B7 = true := by kernel_rfl
set_option maxHeartbeats 8000000 in
set_option maxRecDepth 100000 in
theorem spec_l4Inner.calls (k : Nat) : ∀ (A0 : Option Addr) (c0 : Nat) (l0 : List (S26)) (r : ByteArray) (w : World) (hr0 : Kd.C k26 w A0 l0.length l0) (hc0 : l0.length ≤ c0) (h : spec_l4Inner.f k l0 = some r),
  Calls Try.prog 93 #[.slice A0 l0.length c0] w fun e w' => e = .returned (.string r) ∧ Below w.heap.size w w' := by
  induction k using Nat.strongRecOn with
  | _ k ih =>
  intro A0 c0 l0 r w hr0 hc0 h
  cases k with
  | zero => exact absurd h (by simp [spec_l4Inner.f])
  | succ k =>
  simp only [spec_l4Inner.f] at h
  have hu26 := Try.underlying26
  have HR0 := Aside0.mk hr0
  have HC0 := Aside0.mk hc0
  clear hr0 hc0
  have HB := q_ (Below.refl w.heap.size w)
  have H : (if (l0.length : Int) = 0 then ((spec_Digest.f k (([] : List Int))).bind fun t264 => (some t264)) else (if (l0.length : Int) = 1 then (if 0 < (l0.length : Int) then ((spec_LeafOf.f k ((rd_T26 l0 0).f0) ((rd_T26 l0 0).f1)).bind fun t266 => (some t266)) else (none)) else ((spec_l4Half.f k (l0.length : Int)).bind fun t267 => (if 0 ≤ t267 then (if t267 ≤ (l0.length : Int) then ((spec_l4Inner.f k (l0.take (t267 : Int).toNat)).bind fun t272 => ((spec_l4Inner.f k (l0.drop (t267 : Int).toNat)).bind fun t277 => ((spec_NodeOf.f k t272 t277).bind fun t278 => (some t278)))) else (none)) else (none))))) = some r := h
  clear h
  by_cases c2 : (l0.length : Int) = 0
  · rw [if_pos c2] at H
    have c2b0 : ((l0.length : Int) == 0) = true := beq_iff_eq.mpr c2
    have c2b1 : ((l0.length : Int) != 0) = false := bne_eq_false_iff_eq.mpr c2
    clear c2
    obtain ⟨y261, hy261⟩ : ∃ y_ : List Int, y_ = (([] : List Int)) := ⟨_, rfl⟩
    replace H : ((spec_Digest.f k y261).bind fun t264 => (some t264)) = some r := ry_ hy261 H
    have Ny261 := Aside0.mk hy261
    clear hy261
    replace H := Option.bind_eq_some_iff.mp H
    obtain ⟨t264, A30, H⟩ := H
    have A3 := Aside0.mk A30
    clear A30
    obtain rfl := Option.some.inj H
    go_enter Try.func93, Try.ntmps93
    go_wp2_with (first | ((with_reducible refine gate_dst (N := 8) rfl ?_); refine Kd.R_lit (Kd.int .u8) _ 5 ?hg (N := 8) ?hd (xs := ([] : List Int)) (inner := []) (ok := fun _ => True) (okp := fun _ => True) ?hr ?hp (fun _ hk => hk) trivial (Below.refl _ _) (Nat.le_refl _) (by simp) ?_; (case hd => rfl); (case hg => rfl); (case hr => first | (go_simp; done) | (go_simp; rfl)); (case hp => exact (Reps.none _ _)); intro v262 w4 ho5 hb hg_ hnew_; clear hg_ hnew_; (first | rw [← Ny261.out] at ho5 | (simp only [Int.reduceToNat] at ho5; rw [← Ny261.out] at ho5)); have HO263 := q_ (Kd.R_lower ho5 (below_size (be_ HB.out))); replace HB := q_ (below_step (be_ HB.out) hb); clear hb ho5; obtain ⟨Ao6, co6, eo6⟩ := Kd.R_slice HO263.out; subst eo6) | ((with_reducible refine gate_callee (f := 53) rfl ?_); refine gl_ (some 9) Try.func53 #[.slice Ao6 y261.length co6] rfl al_ ?_; (with_reducible refine (spec_Digest.calls k _ _ y261 t264 _ ?side1 ?side2 A3.out).mono ?_); (case side1 => exact kc_ (Kd.R_reads' HO263.out).2.2); (case side2 => exact (Kd.R_reads' HO263.out).2.1); rintro e w7 ⟨rfl, hb⟩; refine ⟨_, rfl, ?_⟩; replace HO263 := q_ (Kd.R_below (kr_ HO263.out) hb); replace HB := q_ (below_step (be_ HB.out) hb); (try clear hb)))
    go_ret
    exact ⟨rf_, be_ HB.out⟩
  · rw [if_neg c2] at H
    have c2b0 : ((l0.length : Int) == 0) = false := beq_eq_false_iff_ne.mpr c2
    have c2b1 : ((l0.length : Int) != 0) = true := bne_iff_ne.mpr c2
    have c2b2 : ¬ (l0 = []) := fun h_ => c2 (by rw [h_]; rfl)
    by_cases c8 : (l0.length : Int) = 1
    · rw [if_pos c8] at H
      have c8b0 : ((l0.length : Int) == 1) = true := beq_iff_eq.mpr c8
      have c8b1 : ((l0.length : Int) != 1) = false := bne_eq_false_iff_eq.mpr c8
      clear c8
      by_cases c9 : 0 < (l0.length : Int)
      rotate_left
      · rw [if_neg c9] at H; exact absurd H (by simp)
      rw [if_pos c9] at H
      have c9b0 : decide (0 < (l0.length : Int)) = true := decide_eq_true c9
      have c9b1 : decide (0 < l0.length) = true := decide_eq_true (by omega)
      clear c9
      replace H := Option.bind_eq_some_iff.mp H
      obtain ⟨t266, A100, H⟩ := H
      have A10 := Aside0.mk A100
      clear A100
      obtain rfl := Option.some.inj H
      have p265 : 0 ≤ (0 : Int) := (by omega)
      have q265 : 0 < (l0.length : Int) := od_
      obtain ⟨ad265, e265, hx265_0, hx265_1⟩ := at_T26 HR0.out 0 p265 q265
      cases e265
      have qi265 : (0 < l0.length) = True := eq_true (by omega)
      (try rw [show ((0 : Int)).toNat = 0 from rfl] at hx265_0)
      (try rw [show 0 * 2 = 0 from rfl] at hx265_0)
      (try rw [Addr.add_zero'] at hx265_0)
      (try rw [show ((0 : Int)).toNat = 0 from rfl] at hx265_1)
      (try rw [show 0 * 2 = 0 from rfl] at hx265_1)
      (try rw [Addr.add_zero'] at hx265_1)
      replace p265 := eq_true p265
      replace q265 := eq_true q265
      go_enter Try.func93, Try.ntmps93
      go_wp2_with (first | ((with_reducible refine gate_callee (f := 119) rfl ?_); refine gl_ (some 15) Try.func119 #[.agg #[.string ((rd_T26 l0 0).f0), .string ((rd_T26 l0 0).f1)]] rfl al_ ?_; (with_reducible refine (spec_LeafOf.calls k ((rd_T26 l0 0).f0) ((rd_T26 l0 0).f1) t266 _ A10.out).mono ?_); rintro e w11 ⟨rfl, hb⟩; refine ⟨_, rfl, ?_⟩; replace HB := q_ (below_step (be_ HB.out) hb); (try clear hb)))
      go_ret
      exact ⟨rf_, be_ HB.out⟩
    · rw [if_neg c8] at H
      have c8b0 : ((l0.length : Int) == 1) = false := beq_eq_false_iff_ne.mpr c8
      have c8b1 : ((l0.length : Int) != 1) = true := bne_iff_ne.mpr c8
      replace H := Option.bind_eq_some_iff.mp H
      obtain ⟨t267, A120, H⟩ := H
      have A12 := Aside0.mk A120
      clear A120
      by_cases c13 : 0 ≤ t267
      rotate_left
      · rw [if_neg c13] at H; exact absurd H (by simp)
      rw [if_pos c13] at H
      have c13b0 := eq_true c13
      have c13b1 : decide (0 ≤ t267) = true := decide_eq_true c13
      clear c13
      by_cases c14 : t267 ≤ (l0.length : Int)
      rotate_left
      · rw [if_neg c14] at H; exact absurd H (by simp)
      rw [if_pos c14] at H
      have c14b0 := eq_true c14
      have c14b1 : decide (t267 ≤ (l0.length : Int)) = true := decide_eq_true c14
      clear c14
      obtain ⟨y268, hy268⟩ : ∃ y_ : List (S26), y_ = (l0.take (t267 : Int).toNat) := ⟨_, rfl⟩
      replace H : ((spec_l4Inner.f k y268).bind fun t272 => ((spec_l4Inner.f k (l0.drop (t267 : Int).toNat)).bind fun t277 => ((spec_NodeOf.f k t272 t277).bind fun t278 => (some t278)))) = some r := ry_ hy268 H
      have Ny268 := Aside0.mk hy268
      clear hy268
      replace H := Option.bind_eq_some_iff.mp H
      obtain ⟨t272, A150, H⟩ := H
      have A15 := Aside0.mk A150
      clear A150
      have c16b0 := eq_true (od_ : 0 ≤ t267)
      have c17b0 := eq_true (od_ : t267 ≤ (l0.length : Int))
      obtain ⟨y273, hy273⟩ : ∃ y_ : List (S26), y_ = (l0.drop (t267 : Int).toNat) := ⟨_, rfl⟩
      replace H : ((spec_l4Inner.f k y273).bind fun t277 => ((spec_NodeOf.f k t272 t277).bind fun t278 => (some t278))) = some r := ry_ hy273 H
      have Ny273 := Aside0.mk hy273
      clear hy273
      replace H := Option.bind_eq_some_iff.mp H
      obtain ⟨t277, A180, H⟩ := H
      have A18 := Aside0.mk A180
      clear A180
      replace H := Option.bind_eq_some_iff.mp H
      obtain ⟨t278, A190, H⟩ := H
      have A19 := Aside0.mk A190
      clear A190
      obtain rfl := Option.some.inj H
      go_enter Try.func93, Try.ntmps93
      try go_wp2_with (first | ((with_reducible refine gate_callee (f := 92) rfl ?_); refine gl_ (some 18) Try.func92 #[.int .i64 (l0.length : Int)] rfl al_ ?_; (with_reducible refine (spec_l4Half.calls k (l0.length : Int) t267 _ A12.out).mono ?_); rintro e w' ⟨rfl, ⟨nd, rfl⟩⟩; refine ⟨_, rfl, ?_⟩))
      replace HB := q_ (below_drew1 (pw_below_drewN HB.out nd))
      have q21 : (t267 : Int) ≤ ((l0.length : Int) : Int) := od_
      obtain ⟨i021, hi021, _, hsz21, _⟩ := info_parts info26
      have hroom21 : l0.length ≤ c0 := HC0.out
      have hC21 : Kd.C k26 _ A0 l0.length l0 := HR0.out
      have hcut21 := cut_to (P := Try.prog) 24 26 .i64 Try.underlying24 hi021 A0 l0.length c0 t267 od_ q21 hroom21
      have hr21 := Kd.C_take (m := (t267 : Int).toNat) hC21 (by omega)
      have hy21 : y268.length = (t267 : Int).toNat := (by rw [Ny268.out, List.length_take]; omega)
      rw [← Ny268.out] at hr21
      rw [← hy21] at hcut21
      have HR271 := Aside0.mk hr21
      have HC271 := q_ (show y268.length ≤ c0 from by omega)
      clear hr21 hC21 hroom21 hi021 hsz21
      have KY21 := Aside0.mk hy21
      clear hy21
      replace q21 := eq_true q21
      have q22 : (t267 : Int) ≤ ((l0.length : Int) : Int) := od_
      obtain ⟨i022, hi022, _, hsz22, _⟩ := info_parts info26
      have hroom22 : l0.length ≤ c0 := HC0.out
      have hC22 : Kd.C k26 _ A0 l0.length l0 := HR0.out
      have q022 : (0 : Int) ≤ (t267 : Int) := od_
      have hcut22 := cut_from (P := Try.prog) 24 26 .i64 Try.underlying24 hi022 2 hsz22 A0 l0.length c0 t267 q022 q22
      have hr22 := Kd.C_drop (m := (t267 : Int).toNat) (c := c0) hC22 (by omega) hroom22
      obtain ⟨A22, hA22⟩ : ∃ A1, A1 = (if c0 = (t267 : Int).toNat then A0 else (A0 : Option Addr).map (·.add ((t267 : Int).toNat * 2))) := ⟨_, rfl⟩
      obtain ⟨c22, hc22⟩ : ∃ c1, c1 = c0 - (t267 : Int).toNat := ⟨_, rfl⟩
      have hy22 : y273.length = l0.length - (t267 : Int).toNat := (by rw [Ny273.out, List.length_drop] <;> omega)
      rw [show (l0).drop (t267 : Int).toNat = y273 from Ny273.out.symm] at hr22
      replace hr22 : Kd.C k26 _ A22 y273.length y273 := (by rw [hA22]; exact hr22)
      rw [← hy22, ← hA22, ← hc22] at hcut22
      have HR276 := Aside0.mk hr22
      have HC276 := q_ (show y273.length ≤ c22 from by rw [hy22, hc22]; exact Nat.sub_le_sub_right hroom22 _)
      clear hr22 hC22 hroom22 hi022 hsz22 hc22
      have KY22 := Aside0.mk hy22
      have KA22 := Aside0.mk hA22
      clear hy22 hA22
      replace q22 := eq_true q22
      refine start_ (n := 10) (S := fun w' => True) (ds := []) (bq_ 0 10) (by kernel_rfl) rfl rfl trivial (fun hHeld => ?_); refine with_tabW spec_l4Inner.tab7 spec_l4Inner.bits7 (fun HT_ HW_ => ?_)
      generalize (World.drewN w nd).drew = w20 at HB HR271 HR276 hHeld ⊢
      refine pu_ 0 (some 19) (bq_ 1 9) HT_ ?_
      refine pu_ 1 (some 20) (bq_ 2 8) HT_ ?_
      refine pu_ 2 (some 21) (bq_ 3 7) HT_ ?_
      refine pu_ 4 (some 23) (br_ [3, 1, 1, 5]) HT_ ?_
      refine pu_ 5 (some 24) (br_ [3, 1, 2, 4]) HT_ ?_
      refine pu_ 6 (some 25) (br_ [3, 1, 3, 3]) HT_ ?_
      refine on_ 3 (some 22) (bq_ 7 3) HT_ (fun K hK => ?_)
      refine goes_ Try.func93 (by kernel_rfl) rfl #[.slice A0 y268.length c0] (by rfl) rfl rfl al_ ?_
      with_reducible refine (ih k (by omega) _ _ y268 t272 _ ?side1 ?side2 A15.out).mono ?_
      (case side1 => exact kc_ (Kd.C_below HR271.out HB.out))
      (case side2 => exact HC271.out)
      rintro e w23 ⟨rfl, hb⟩
      refine ⟨_, rfl, ?_⟩
      replace HB := q_ (below_step (be_ HB.out) hb)
      (try clear hb)
      (try clear hb2)
      (try clear hk)
      (try clear hi)
      refine hK.out _ _ trivial (fun hHeld => ?_)
      clear hK K
      refine nm_ ?_
      refine on_ 7 (some 26) (bq_ 8 2) HT_ (fun K hK => ?_)
      refine goes_ Try.func93 (by kernel_rfl) rfl #[.slice A22 y273.length c22] (by rfl) rfl rfl al_ ?_
      with_reducible refine (ih k (by omega) _ _ y273 t277 _ ?side1 ?side2 A18.out).mono ?_
      (case side1 => exact kc_ (Kd.C_below HR276.out HB.out))
      (case side2 => exact HC276.out)
      rintro e w24 ⟨rfl, hb⟩
      refine ⟨_, rfl, ?_⟩
      replace HB := q_ (below_step (be_ HB.out) hb)
      (try clear hb)
      (try clear hb2)
      (try clear hk)
      (try clear hi)
      refine hK.out _ _ trivial (fun hHeld => ?_)
      clear hK K
      refine nm_ ?_
      refine on_ 8 (some 27) (bq_ 9 1) HT_ (fun K hK => ?_)
      refine goes_ Try.func120 (by kernel_rfl) rfl #[.string t272, .string t277] (by rfl) rfl rfl al_ ?_
      with_reducible refine (spec_NodeOf.calls k t272 t277 t278 _ A19.out).mono ?_
      rintro e w25 ⟨rfl, hb⟩
      refine ⟨_, rfl, ?_⟩
      replace HB := q_ (below_step (be_ HB.out) hb)
      (try clear hb)
      (try clear hb2)
      (try clear hk)
      (try clear hi)
      refine hK.out _ _ trivial (fun hHeld => ?_)
      clear hK K
      refine nm_ ?_
      refine pu_ 9 (some 2) (bq_ 10 0) HT_ ?_
      refine done_ (done_of HT_.out (by kernel_rfl)) ?_
      try go_wp2
      go_ret
      exact ⟨rf_, be_ HB.out⟩

/-! ###  spec_l4Top: function 104 -/
def spec_l4Top.f (k : Nat) (a0 : Int) (a1 : ByteArray) : Option (List Int) := (spec_PutNum.f k (([2] : List Int)) a0).bind fun t282 => (if t282.length + a1.size < 140737488355328 then (some (t282 ++ bytesOf a1)) else (none))
set_option maxHeartbeats 8000000 in
set_option maxRecDepth 100000 in
theorem spec_l4Top.calls (k : Nat) (a0 : Int) (a1 : ByteArray) (r : List Int) (w : World) (h : spec_l4Top.f k a0 a1 = some r) :
  Calls Try.prog 104 #[.int .i64 a0, .string a1] w fun e w' => ∃ v0_ : Value, e = .returned (v0_) ∧ Kd.R (Kd.int .u8) 5 w' w.heap.size (fun _ => True) v0_ r ∧ Below w.heap.size w w' := by
  have HB := q_ (Below.refl w.heap.size w)
  have H : ((spec_PutNum.f k (([2] : List Int)) a0).bind fun t282 => (if t282.length + a1.size < 140737488355328 then (some (t282 ++ bytesOf a1)) else (none))) = some r := h
  clear h
  obtain ⟨y279, hy279⟩ : ∃ y_ : List Int, y_ = (([2] : List Int)) := ⟨_, rfl⟩
  replace H : ((spec_PutNum.f k y279 a0).bind fun t282 => (if t282.length + a1.size < 140737488355328 then (some (t282 ++ bytesOf a1)) else (none))) = some r := ry_ hy279 H
  have Ny279 := Aside0.mk hy279
  clear hy279
  replace H := Option.bind_eq_some_iff.mp H
  obtain ⟨t282, A30, H⟩ := H
  have A3 := Aside0.mk A30
  clear A30
  by_cases c4 : t282.length + a1.size < 140737488355328
  rotate_left
  · rw [if_neg c4] at H; exact absurd H (by simp)
  rw [if_pos c4] at H
  have LMc4 := Aside0.mk c4
  clear c4
  obtain ⟨y285, hy285⟩ : ∃ y_ : List Int, y_ = (t282 ++ bytesOf a1) := ⟨_, rfl⟩
  replace H : (some y285) = some r := ry_ hy285 H
  have Ny285 := Aside0.mk hy285
  clear hy285
  obtain rfl := Option.some.inj H
  go_enter Try.func104, Try.ntmps104
  go_wp2_with (first | ((with_reducible refine gate_dst (N := 5) rfl ?_); refine Kd.R_lit (Kd.int .u8) _ 5 ?hg (N := 5) ?hd (xs := ([2] : List Int)) (inner := [.int .u8 2]) (ok := fun _ => True) (okp := fun _ => True) ?hr ?hp (fun _ hk => hk) trivial (Below.refl _ _) (Nat.le_refl _) (by simp) ?_; (case hd => rfl); (case hg => rfl); (case hr => first | (go_simp; done) | (go_simp; rfl)); (case hp => exact (Reps.one (show Kd.M (Kd.int .u8) _ _ _ 2 [.int .u8 2] from rfl) (Reps.none _ _))); intro v280 w5 ho6 hb hg_ hnew_; clear hg_ hnew_; (first | rw [← Ny279.out] at ho6 | (simp only [Int.reduceToNat] at ho6; rw [← Ny279.out] at ho6)); have HO281 := q_ (Kd.R_lower ho6 (below_size (be_ HB.out))); replace HB := q_ (below_step (be_ HB.out) hb); clear hb ho6; obtain ⟨Ao7, co7, eo7⟩ := Kd.R_slice HO281.out; subst eo7) | ((with_reducible refine gate_callee (f := 126) rfl ?_); refine gl_ (some 7) Try.func126 #[.slice Ao7 y279.length co7, .int .i64 a0] rfl al_ ?_; (with_reducible refine (spec_PutNum.calls k _ _ y279 a0 t282 _ ?side1 ?side2 A3.out).mono ?_); (case side1 => exact kc_ (Kd.R_reads' HO281.out).2.2); (case side2 => exact (Kd.R_reads' HO281.out).2.1); rintro e w8 ⟨v283, rfl, ho0, hb⟩; refine ⟨_, rfl, ?_⟩; have HO284 := q_ (Kd.R_lower (Kd.R_new' ho0 (Kd.R_lt (kr_ HO281.out))) (below_size (be_ HB.out))); replace HO281 := q_ (Kd.R_elder' (kr_ HO281.out) (Kd.R_base ho0) hb); replace HB := q_ (below_step (be_ HB.out) hb); (try clear hb); (try clear ho0)) | ((with_reducible refine gate_builtin (b := .append) (xs := #[.tmp 7, _]) rfl ?_); at_builtin; refine Kd.R_append_str (w0 := w) w.heap.size rfl (.tmp 7) _ 22 9 5 rfl Try.underlying22 Try.underlying9 info5 v283 t282 a1 (fun k_ => some k_ ≠ (.slice Ao7 y279.length co7 : Value).ownBlock) rfl rfl ?aF ?aO ?aB ?aS ?aL ?_; (case aB => exact (be_ HB.out)); (case aF => exact (fun k_ hk => Kd.fresh' (Kd.R_lt (kr_ HO281.out)) k_ hk)); (case aO => exact (by (with_reducible repeat (first | apply Kd.R_alloc | apply Kd.R_drewN | apply Kd.R_drew)); exact Kd.R_mono HO284.out (fun _ hk => hk.2))); (case aS => exact (below_size (be_ HB.out))); (case aL => have := LMc4.out; omega); intro v286 w9 ho hb hg hat; rw [← Ny285.out] at ho; have n0_ := q_ (Kd.R_after (ok := (fun _ => True)) (kr_ HO281.out) hg hat); have n1_ := q_ (hb); have n2_ := q_ (ho); clear HO281; clear HB; clear HO284; have HO281 := n0_; have HB := n1_; have HO287 := n2_; clear n0_ n1_ n2_; clear ho hb hg hat))
  go_ret
  exact ⟨_, rf_, by (with_reducible repeat (first | apply Kd.R_alloc | apply Kd.R_drewN | apply Kd.R_drew)); exact Kd.R_mono HO287.out (fun _ hk => trivial), be_ HB.out⟩

/-! ###  spec_l4Root: function 71 -/
def spec_l4Root.f (k : Nat) (l0 : List (S26)) : Option (ByteArray) := (spec_l4Inner.f k l0).bind fun t288 => ((spec_l4Top.f k (l0.length : Int) t288).bind fun t289 => ((spec_Digest.f k t289).bind fun t292 => (some t292)))
set_option maxHeartbeats 8000000 in
set_option maxRecDepth 100000 in
theorem spec_l4Root.calls (k : Nat) (A0 : Option Addr) (c0 : Nat) (l0 : List (S26)) (r : ByteArray) (w : World) (hr0 : Kd.C k26 w A0 l0.length l0) (hc0 : l0.length ≤ c0) (h : spec_l4Root.f k l0 = some r) :
  Calls Try.prog 71 #[.slice A0 l0.length c0] w fun e w' => e = .returned (.string r) ∧ Below w.heap.size w w' := by
  have HR0 := Aside0.mk hr0
  have HC0 := Aside0.mk hc0
  clear hr0 hc0
  have HB := q_ (Below.refl w.heap.size w)
  have H : ((spec_l4Inner.f k l0).bind fun t288 => ((spec_l4Top.f k (l0.length : Int) t288).bind fun t289 => ((spec_Digest.f k t289).bind fun t292 => (some t292)))) = some r := h
  clear h
  replace H := Option.bind_eq_some_iff.mp H
  obtain ⟨t288, A20, H⟩ := H
  have A2 := Aside0.mk A20
  clear A20
  replace H := Option.bind_eq_some_iff.mp H
  obtain ⟨t289, A30, H⟩ := H
  have A3 := Aside0.mk A30
  clear A30
  replace H := Option.bind_eq_some_iff.mp H
  obtain ⟨t292, A40, H⟩ := H
  have A4 := Aside0.mk A40
  clear A40
  obtain rfl := Option.some.inj H
  go_enter Try.func71, Try.ntmps71
  go_wp2_with (first | ((with_reducible refine gate_callee (f := 93) rfl ?_); refine gl_ (some 6) Try.func93 #[.slice A0 l0.length c0] rfl al_ ?_; (with_reducible refine (spec_l4Inner.calls k _ _ l0 t288 _ ?side1 ?side2 A2.out).mono ?_); (case side1 => exact kc_ HR0.out); (case side2 => exact HC0.out); rintro e w5 ⟨rfl, hb⟩; refine ⟨_, rfl, ?_⟩; replace HB := q_ (below_step (be_ HB.out) hb); (try clear hb)) | ((with_reducible refine gate_callee (f := 104) rfl ?_); refine gl_ (some 7) Try.func104 #[.int .i64 (l0.length : Int), .string t288] rfl al_ ?_; (with_reducible refine (spec_l4Top.calls k (l0.length : Int) t288 t289 _ A3.out).mono ?_); rintro e w6 ⟨v290, rfl, ho0, hb⟩; refine ⟨_, rfl, ?_⟩; have HO291 := q_ (Kd.R_lower ho0 (below_size (be_ HB.out))); replace HB := q_ (below_step (be_ HB.out) hb); (try clear hb); (try clear ho0); obtain ⟨Ao7, co7, eo7⟩ := Kd.R_slice HO291.out; subst eo7) | ((with_reducible refine gate_callee (f := 53) rfl ?_); refine gl_ (some 8) Try.func53 #[.slice Ao7 t289.length co7] rfl al_ ?_; (with_reducible refine (spec_Digest.calls k _ _ t289 t292 _ ?side1 ?side2 A4.out).mono ?_); (case side1 => exact kc_ (Kd.R_reads' HO291.out).2.2); (case side2 => exact (Kd.R_reads' HO291.out).2.1); rintro e w8 ⟨rfl, hb⟩; refine ⟨_, rfl, ?_⟩; replace HO291 := q_ (Kd.R_below (kr_ HO291.out) hb); replace HB := q_ (below_step (be_ HB.out) hb); (try clear hb)))
  go_ret
  exact ⟨rf_, be_ HB.out⟩

end Go.Proofs.Ytgaalomhipfgjaa.P
