-- Written by wip/xp/xp.py over the kit's print; Lean checks it.
import Derived.Test.YthkaifddpjjmaaaPx0
import Derived.Test.YthkaifddpjjmaaaPx2
import Derived.Test.YthkaifddpjjmaaaPx4
namespace Go.Proofs.Ythkaifddpjjmaaa.P
open Go.RowKit Go.Proofs.YthkaifddpjjmaaaW.PrintWords Go.Proofs.YthkaifddpjjmaaaW.PrintLast Go.Proofs.YthkaifddpjjmaaaW.PrintMore
attribute [local go_sem] max2_int min2_int max_two min_two max_three min_three max_four min_four   -- for this text's walks alone
set_option linter.unusedVariables false
set_option linter.unusedSimpArgs false

/-! ###  spec_Digest: function 39 -/
mutual
def spec_Digest.l0 : Nat → List Int → List Int → List Int → Int → Option (ByteArray)
  | 0, _, _, _, _ => none
  | k + 1, x3, x4, x5, x6 => if x6 < (x3.length : Int) then (if 0 ≤ x6 then (if x6 ≤ (wrap64 (x6 + 64)) then (if (wrap64 (x6 + 64)) ≤ (x3.length : Int) then ((spec_l2Block.f k x4 ((x3.take ((wrap64 (x6 + 64)) : Int).toNat).drop (x6 : Int).toNat) x5).bind fun t286 => (spec_Digest.l0 k x3 t286 x5 (wrap64 (x6 + 64)))) else (none)) else (none)) else (none)) else (spec_Digest.l1 k x4 (([] : List Int)) 0)
def spec_Digest.l1 : Nat → List Int → List Int → Int → Option (ByteArray)
  | 0, _, _, _ => none
  | k + 1, x4, x7, x8 => if x8 < 8 then (if 0 ≤ x8 then (if x8 < (x4.length : Int) then ((some (([((rd x4 x8) / 16777216) % 256, ((rd x4 x8) / 65536) % 256, ((rd x4 x8) / 256) % 256, (rd x4 x8) % 256] : List Int) : List Int)).bind fun y296 => (if x7.length + y296.length < 140737488355328 then (spec_Digest.l1 k x4 (x7 ++ y296) (wrap64 (x8 + 1))) else (none))) else (none)) else (none)) else (some (strOfNums x7))
end
def spec_Digest.f (k : Nat) (l0 : List Int) : Option (ByteArray) := (spec_Padded.f k l0).bind fun t273 => ((spec_l2K.f).bind fun t279 => (spec_Digest.l0 k t273 (([1779033703, 3144134277, 1013904242, 2773480762, 1359893119, 2600822924, 528734635, 1541459225] : List Int)) t279 0))
def spec_Digest.T12 : Bool × List (List Nat × List Nat) := (true, [([], []), ([], []), ([], []), ([1, 2], [1, 2]), ([3], [3]), ([4], [4]), ([5], [5]), ([], []), ([], []), ([7, 8], [7, 8]), ([9], [9]), ([10], [10]), ([11], [11]), ([], []), ([], []), ([13, 14], [13, 14]), ([15], [15]), ([16], [16]), ([17], [17]), ([], []), ([], []), ([19, 20], [19, 20]), ([21], [21]), ([22], [22]), ([6, 12, 18, 23], [6, 12, 18, 23]), ([0, 24], [0, 24]), ([25, 25, 0, 1, 2, 3, 4, 5, 6, 7, 8, 9, 10, 11, 12, 13, 14, 15, 16, 17, 18, 19, 20, 21, 22, 23, 24, 25], [0, 25])])
def spec_Digest.B12 : List Nat := [0, 0, 0, 6, 14, 30, 62, 0, 0, 384, 896, 1920, 3968, 0, 0, 24576, 57344, 122880, 253952, 0, 0, 1572864, 3670016, 7864320, 16777214, 33554431, 67108863]
theorem spec_Digest.tab12 : rtab .any (opsOf Try.f39 12) = spec_Digest.T12 := by kernel_rfl
theorem spec_Digest.bits12 : waitsOk spec_Digest.T12.2 spec_Digest.B12 = true := by kernel_rfl
set_option maxHeartbeats 8000000 in
set_option maxRecDepth 100000 in
theorem spec_Digest.calls (k : Nat) (A0 : Option Addr) (c0 : Nat) (l0 : List Int) (r : ByteArray) (w : World) (hr0 : Kd.C (Kd.int .u8) w A0 l0.length l0) (hc0 : l0.length ≤ c0) (h : spec_Digest.f k l0 = some r) :
  Calls Try.prog 39 #[.slice A0 l0.length c0] w fun e w' => e = .returned (.string r) ∧ Below w.heap.size w w' := by
  have HR0 := Aside0.mk hr0
  have HC0 := Aside0.mk hc0
  clear hr0 hc0
  have HB := q_ (Below.refl w.heap.size w)
  have H := h
  clear h
  unfold spec_Digest.f at H
  obtain ⟨t273, A2, H⟩ := bo_ H
  obtain ⟨y276, hy276⟩ : ∃ y_ : List Int, y_ = (([1779033703, 3144134277, 1013904242, 2773480762, 1359893119, 2600822924, 528734635, 1541459225] : List Int)) := ⟨_, rfl⟩
  replace H : ((spec_l2K.f).bind fun t279 => (spec_Digest.l0 k t273 y276 t279 0)) = some r := ry_ hy276 H
  have Ny276 := Aside0.mk hy276
  clear hy276
  obtain ⟨t279, A3, H⟩ := bo_ H
  have H' := Aside0.mk H
  clear H
  go_enter Try.func39, Try.ntmps39
  go_wp2_with (first | ((with_reducible refine gate_callee (f := 81) rfl ?_); refine gl_ (some 10) Try.func81 #[.slice A0 l0.length c0] rfl al_ ?_; (with_reducible refine (spec_Padded.calls k _ _ l0 t273 _ ?side1 ?side2 A2.out).mono ?_); (case side1 => exact kc_ HR0.out); (case side2 => exact HC0.out); rintro e w4 ⟨v274, rfl, ho0, hb⟩; refine ⟨_, rfl, ?_⟩; have HO275 := q_ (Kd.R_lower ho0 (below_size (be_ HB.out))); replace HB := q_ (below_step (be_ HB.out) hb); (try clear hb); (try clear ho0)) | ((with_reducible refine gate_dst (N := 11) rfl ?_); refine Kd.R_lit (Kd.int .i64) _ 3 ?hg (N := 11) ?hd (xs := ([1779033703, 3144134277, 1013904242, 2773480762, 1359893119, 2600822924, 528734635, 1541459225] : List Int)) (inner := [.int .i64 1779033703, .int .i64 3144134277, .int .i64 1013904242, .int .i64 2773480762, .int .i64 1359893119, .int .i64 2600822924, .int .i64 528734635, .int .i64 1541459225]) (ok := fun _ => True) (okp := fun _ => True) ?hr ?hp (fun _ hk => hk) trivial (Below.refl _ _) (Nat.le_refl _) (by simp) ?_; (case hd => rfl); (case hg => rfl); (case hr => first | (go_simp; done) | (go_simp; rfl)); (case hp => exact (Reps.one (show Kd.M (Kd.int .i64) _ _ _ 1779033703 [.int .i64 1779033703] from rfl) (Reps.one (show Kd.M (Kd.int .i64) _ _ _ 3144134277 [.int .i64 3144134277] from rfl) (Reps.one (show Kd.M (Kd.int .i64) _ _ _ 1013904242 [.int .i64 1013904242] from rfl) (Reps.one (show Kd.M (Kd.int .i64) _ _ _ 2773480762 [.int .i64 2773480762] from rfl) (Reps.one (show Kd.M (Kd.int .i64) _ _ _ 1359893119 [.int .i64 1359893119] from rfl) (Reps.one (show Kd.M (Kd.int .i64) _ _ _ 2600822924 [.int .i64 2600822924] from rfl) (Reps.one (show Kd.M (Kd.int .i64) _ _ _ 528734635 [.int .i64 528734635] from rfl) (Reps.one (show Kd.M (Kd.int .i64) _ _ _ 1541459225 [.int .i64 1541459225] from rfl) (Reps.none _ _)))))))))); intro v277 w5 ho6 hb hg_ hnew_; clear hg_ hnew_; (first | rw [← Ny276.out] at ho6 | (simp only [Int.reduceToNat] at ho6; rw [← Ny276.out] at ho6)); replace HO275 := q_ (Kd.R_below (kr_ HO275.out) hb); have HO278 := q_ (Kd.R_lower ho6 (below_size (be_ HB.out))); replace HB := q_ (below_step (be_ HB.out) hb); clear hb ho6) | ((with_reducible refine gate_callee (f := 82) rfl ?_); refine gl_ (some 12) Try.func82 #[] rfl al_ ?_; (with_reducible refine (spec_l2K.calls  t279 _ A3.out).mono ?_); rintro e w7 ⟨v280, rfl, ho0, hb⟩; refine ⟨_, rfl, ?_⟩; replace HO275 := q_ (Kd.R_below (kr_ HO275.out) hb); have HO281 := q_ (Kd.R_lower (Kd.R_new' ho0 (Kd.R_lt (kr_ HO278.out))) (below_size (be_ HB.out))); replace HO278 := q_ (Kd.R_elder' (kr_ HO278.out) (Kd.R_base ho0) hb); replace HB := q_ (below_step (be_ HB.out) hb); (try clear hb); (try clear ho0)))
  go_loopg [4, 6] k (fun kq v4 v6 w' => ∃ (x4_1 : List Int) (x6_1 : Int), v6 = .int .i64 x6_1 ∧ Aside0 (spec_Digest.l0 kq t273 x4_1 t279 x6_1 = some r) ∧ Aside0 (kq ≤ k) ∧ Aside0 (Kd.R (Kd.int .u8) 5 w' w.heap.size (fun _ => True) v274 t273) ∧ Aside0 (Kd.R (Kd.int .i64) 3 w' w.heap.size (fun k_ => some k_ ≠ (v280 : Value).ownBlock) v4 x4_1) ∧ Aside0 (Kd.R (Kd.int .i64) 3 w' w.heap.size (fun k_ => some k_ ≠ (v4 : Value).ownBlock) v280 t279) ∧ Aside0 (Below w.heap.size w w'))
  case atStart => exact ⟨(y276), (0), rs_, H', ⟨Nat.le_refl _⟩, ⟨by (with_reducible repeat (first | apply Kd.R_alloc | apply Kd.R_drewN | apply Kd.R_drew)); exact HO275.out⟩, ⟨by (with_reducible repeat (first | apply Kd.R_alloc | apply Kd.R_drewN | apply Kd.R_drew)); exact Kd.R_mono HO278.out (fun _ hk => hk.2)⟩, ⟨by (with_reducible repeat (first | apply Kd.R_alloc | apply Kd.R_drewN | apply Kd.R_drew)); exact Kd.R_mono HO281.out (fun _ hk => hk.2)⟩, ⟨be_ HB.out⟩⟩
  case round =>
   clear H'
   try clear p2
   try clear c3
   obtain ⟨x4_1, x6_1, rfl, HA, HK1, HO_3, HO_4, HO_5, HB⟩ := hrel
   cases gk with
   | zero => exact absurd HA.out (by simp [spec_Digest.l0])
   | succ k1 =>
    have H := HA.out
    clear HA
    simp only [spec_Digest.l0] at H
    by_cases c8 : x6_1 < (t273.length : Int)
    · rw [if_pos c8] at H
      have c8b0 := decide_eq_true c8
      clear c8
      obtain ⟨c9, H⟩ := ip_ H
      have c9b0 := eq_true c9
      have c9b1 : decide (0 ≤ x6_1) = true := decide_eq_true c9
      clear c9
      obtain ⟨c10, H⟩ := ip_ H
      have c10b0 := eq_true c10
      have c10b1 : decide (x6_1 ≤ (wrap64 (x6_1 + 64))) = true := decide_eq_true c10
      obtain ⟨c11, H⟩ := ip_ H
      have c11b0 := eq_true c11
      have c11b1 : decide ((wrap64 (x6_1 + 64)) ≤ (t273.length : Int)) = true := decide_eq_true c11
      obtain ⟨y282, hy282⟩ : ∃ y_ : List Int, y_ = ((t273.take ((wrap64 (x6_1 + 64)) : Int).toNat).drop (x6_1 : Int).toNat) := ⟨_, rfl⟩
      replace H : ((spec_l2Block.f k1 x4_1 y282 t279).bind fun t286 => (spec_Digest.l0 k1 t273 t286 t279 (wrap64 (x6_1 + 64)))) = some r := ry_ hy282 H
      have Ny282 := Aside0.mk hy282
      clear hy282
      obtain ⟨t286, A12, H⟩ := bo_ H
      have H' := Aside0.mk H
      clear H
      obtain ⟨Ao13, co13, eo13⟩ := Kd.R_slice HO_3.out
      subst eo13
      have q14 : ((wrap64 (x6_1 + 64)) : Int) ≤ ((t273.length : Int) : Int) := od_
      obtain ⟨i014, hi014, _, hsz14, _⟩ := info_parts info5
      have hroom14 : t273.length ≤ co13 := (Kd.R_reads' HO_3.out).2.1
      have hC14 : Kd.C (Kd.int .u8) _ Ao13 t273.length t273 := (Kd.R_reads' HO_3.out).2.2
      have ql14 : (x6_1 : Int) ≤ ((wrap64 (x6_1 + 64)) : Int) := od_
      have q014 : (0 : Int) ≤ (x6_1 : Int) := od_
      have hcut14 := cut_mid (P := Try.prog) 22 5 .i64 .i64 Try.underlying22 hi014 1 hsz14 Ao13 t273.length co13 x6_1 (wrap64 (x6_1 + 64)) q014 ql14 q14 hroom14
      have hr14 := Kd.C_mid (lo := (x6_1 : Int).toNat) (hi := ((wrap64 (x6_1 + 64)) : Int).toNat) (c := co13) hC14 (by omega) (by omega) hroom14
      obtain ⟨A14, hA14⟩ : ∃ A1, A1 = (if co13 = (x6_1 : Int).toNat then Ao13 else (Ao13 : Option Addr).map (·.add ((x6_1 : Int).toNat * 1))) := ⟨_, rfl⟩
      obtain ⟨c14, hc14⟩ : ∃ c1, c1 = co13 - (x6_1 : Int).toNat := ⟨_, rfl⟩
      have hy14 : y282.length = ((wrap64 (x6_1 + 64)) : Int).toNat - (x6_1 : Int).toNat := (by rw [Ny282.out, List.length_drop, List.length_take] <;> omega)
      rw [show ((t273).take ((wrap64 (x6_1 + 64)) : Int).toNat).drop (x6_1 : Int).toNat = y282 from Ny282.out.symm] at hr14
      replace hr14 : Kd.C (Kd.int .u8) _ A14 y282.length y282 := (by rw [hA14]; exact hr14)
      rw [← hy14, ← hA14, ← hc14] at hcut14
      have HR285 := Aside0.mk hr14
      have HC285 := q_ (show y282.length ≤ c14 from by rw [hy14, hc14]; exact Nat.sub_le_sub_right (Nat.le_trans (by omega) hroom14) _)
      clear hr14 hC14 hroom14 hi014 hsz14 hc14
      have KY14 := Aside0.mk hy14
      have KA14 := Aside0.mk hA14
      clear hy14 hA14
      have KL14 := q_ (show ((wrap64 (x6_1 + 64)) : Int).toNat ≤ t273.length from by omega)
      have KM14 := q_ (show (x6_1 : Int).toNat ≤ ((wrap64 (x6_1 + 64)) : Int).toNat from by omega)
      replace q14 := eq_true q14
      obtain ⟨Ao15, co15, eo15⟩ := Kd.R_slice HO_4.out
      subst eo15
      obtain ⟨Ao16, co16, eo16⟩ := Kd.R_slice HO_5.out
      subst eo16
      go_wp2_with (first | ((with_reducible refine gate_callee (f := 83) rfl ?_); refine gl_ (some 26) Try.func83 #[.slice Ao15 x4_1.length co15, .slice A14 y282.length c14, .slice Ao16 t279.length co16] rfl al_ ?_; (with_reducible refine (spec_l2Block.calls k1 _ _ x4_1 _ _ y282 _ _ t279 t286 _ ?side1 ?side2 ?side3 ?side4 ?side5 ?side6 A12.out).mono ?_); (case side1 => exact kc_ (Kd.R_reads' HO_4.out).2.2); (case side2 => exact (Kd.R_reads' HO_4.out).2.1); (case side3 => repeat (first | exact (by repeat (first | (with_reducible exact HR285.out) | (with_reducible refine Kd.C_alloc ?_ _) | (with_reducible refine Kd.C_drewN ?_ _) | (with_reducible refine Kd.C_drew ?_) | exact HR285.out)) | (with_reducible refine Kd.C_alloc ?_ _) | (with_reducible refine Kd.C_drewN ?_ _) | (with_reducible refine Kd.C_drew ?_))); (case side4 => exact HC285.out); (case side5 => exact kc_ (Kd.R_reads' HO_5.out).2.2); (case side6 => exact (Kd.R_reads' HO_5.out).2.1); rintro e w17 ⟨v287, rfl, ho0, hb⟩; refine ⟨_, rfl, ?_⟩; replace HO_3 := q_ (Kd.R_below (kr_ HO_3.out) hb); have HO288 := q_ (Kd.R_lower (Kd.R_new' (Kd.R_new' ho0 (Kd.R_lt (kr_ HO_4.out))) (Kd.R_lt (kr_ HO_5.out))) (below_size (be_ HB.out))); replace HO_4 := q_ (Kd.R_elder' (kr_ HO_4.out) (Kd.R_base ho0) hb); replace HO_5 := q_ (Kd.R_elder' (kr_ HO_5.out) (Kd.R_base ho0) hb); replace HR285 := q_ (Kd.C_below (by repeat (first | (with_reducible exact HR285.out) | (with_reducible refine Kd.C_alloc ?_ _) | (with_reducible refine Kd.C_drewN ?_ _) | (with_reducible refine Kd.C_drew ?_) | exact HR285.out)) hb); replace HB := q_ (below_step (be_ HB.out) hb); (try clear hb); (try clear ho0)))
      go_roundg k1
      case measure => have := HK1.out; omega
      case rel => exact ⟨(t286), (wrap64 (x6_1 + 64)), rs_, H', ⟨by have := HK1.out; omega⟩, ⟨by (with_reducible repeat (first | apply Kd.R_alloc | apply Kd.R_drewN | apply Kd.R_drew)); exact HO_3.out⟩, ⟨by (with_reducible repeat (first | apply Kd.R_alloc | apply Kd.R_drewN | apply Kd.R_drew)); exact Kd.R_mono HO288.out (fun _ hk => hk.2)⟩, ⟨by (with_reducible repeat (first | apply Kd.R_alloc | apply Kd.R_drewN | apply Kd.R_drew)); exact Kd.R_mono HO_5.out (fun _ hk => hk.2)⟩, ⟨be_ HB.out⟩⟩
    · rw [if_neg c8] at H
      have c8b0 := decide_eq_false c8
      clear c8
      obtain ⟨y289, hy289⟩ : ∃ y_ : List Int, y_ = (([] : List Int)) := ⟨_, rfl⟩
      replace H : (spec_Digest.l1 k1 x4_1 y289 0) = some r := ry_ hy289 H
      have Ny289 := Aside0.mk hy289
      clear hy289
      have H' := Aside0.mk H
      clear H
      obtain ⟨Ao18, co18, eo18⟩ := Kd.R_slice HO_3.out
      subst eo18
      go_wp2_with (first | ((with_reducible refine gate_dst (N := 27) rfl ?_); refine Kd.R_lit (Kd.int .u8) _ 5 ?hg (N := 27) ?hd (xs := ([] : List Int)) (inner := []) (ok := fun _ => True) (okp := fun _ => True) ?hr ?hp (fun _ hk => hk) trivial (Below.refl _ _) (Nat.le_refl _) (by simp) ?_; (case hd => rfl); (case hg => rfl); (case hr => first | (go_simp; done) | (go_simp; rfl)); (case hp => exact (Reps.none _ _)); intro v290 w19 ho20 hb hg_ hnew_; clear hg_ hnew_; (first | rw [← Ny289.out] at ho20 | (simp only [Int.reduceToNat] at ho20; rw [← Ny289.out] at ho20)); replace HO_4 := q_ (Kd.R_below (kr_ HO_4.out) hb); replace HO_5 := q_ (Kd.R_below (kr_ HO_5.out) hb); have HO291 := q_ (Kd.R_lower (Kd.R_new' ho20 (Kd.R_lt (kr_ HO_3.out))) (below_size (be_ HB.out))); replace HO_3 := q_ (Kd.R_elder' (kr_ HO_3.out) (Kd.R_base ho20) hb); replace HB := q_ (below_step (be_ HB.out) hb); clear hb ho20))
      go_loopg [7, 8] k1 (fun kq v7 v8 w' => ∃ (x7_2 : List Int) (x8_2 : Int), v8 = .int .i64 x8_2 ∧ Aside0 (spec_Digest.l1 kq x4_1 x7_2 x8_2 = some r) ∧ Aside0 (kq ≤ k1) ∧ Aside0 (Kd.R (Kd.int .i64) 3 w' w.heap.size (fun _ => True) u4 x4_1) ∧ Aside0 (Kd.R (Kd.int .u8) 5 w' w.heap.size (fun _ => True) v7 x7_2) ∧ Aside0 (Below w.heap.size w w'))
      case atStart => exact ⟨(y289), (0), rs_, H', ⟨Nat.le_refl _⟩, ⟨by (with_reducible repeat (first | apply Kd.R_alloc | apply Kd.R_drewN | apply Kd.R_drew)); exact Kd.R_mono HO_4.out (fun _ hk => trivial)⟩, ⟨by (with_reducible repeat (first | apply Kd.R_alloc | apply Kd.R_drewN | apply Kd.R_drew)); exact Kd.R_mono HO291.out (fun _ hk => trivial)⟩, ⟨be_ HB.out⟩⟩
      case round =>
       clear H'
       try clear c1
       try clear q1
       try clear p2
       try clear c3
       try clear p6
       try clear c8
       try clear c8b0
       try clear c9
       try clear c9b0
       try clear c9b1
       try clear c10
       try clear c10b0
       try clear c10b1
       try clear c11
       try clear c11b0
       try clear c11b1
       try clear c14
       try clear q14
       try clear p2
       try clear q014
       try clear q14
       obtain ⟨x7_2, x8_2, rfl, HA, HK2, HO_4, HO_7, HB⟩ := hrel
       cases gk with
       | zero => exact absurd HA.out (by simp [spec_Digest.l1])
       | succ k2 =>
        have H := HA.out
        clear HA
        simp only [spec_Digest.l1] at H
        by_cases c21 : x8_2 < 8
        · rw [if_pos c21] at H
          have c21b0 := decide_eq_true c21
          clear c21
          obtain ⟨c22, H⟩ := ip_ H
          have c22b0 : decide (0 ≤ x8_2) = true := decide_eq_true c22
          clear c22
          obtain ⟨c23, H⟩ := ip_ H
          have c23b0 : decide (x8_2 < (x4_1.length : Int)) = true := decide_eq_true c23
          clear c23
          obtain ⟨y296, Ny296, H⟩ := by_ H
          obtain ⟨c24, H⟩ := ip_ H
          have LMc24 := Aside0.mk c24
          clear c24
          obtain ⟨y299, hy299⟩ : ∃ y_ : List Int, y_ = (x7_2 ++ y296) := ⟨_, rfl⟩
          replace H : (spec_Digest.l1 k2 x4_1 y299 (wrap64 (x8_2 + 1))) = some r := ry_ hy299 H
          have Ny299 := Aside0.mk hy299
          clear hy299
          have H' := Aside0.mk H
          clear H
          try go_wp2
          replace HO_4 := q_ (Kd.R_drew HO_4.out)
          replace HO_7 := q_ (Kd.R_drew HO_7.out)
          replace HB := q_ (below_drew1 HB.out)
          obtain ⟨Ao26, co26, eo26⟩ := Kd.R_slice HO_4.out
          (first | subst eo26 | (injection eo26 with f1_ f2_ f3_; have f4_ := f1_.symm; have f5_ := f3_.symm; clear f1_ f2_ f3_; subst f4_; subst f5_))
          have p292 : 0 ≤ (x8_2 : Int) := od_
          have q292 : x8_2 < (x4_1.length : Int) := od_
          obtain ⟨ad292, e292, hx292_0⟩ := Kd.at_int (Kd.R_reads' HO_4.out).2.2 x8_2 p292 q292
          cases e292
          replace p292 := eq_true p292
          replace q292 := eq_true q292
          have p293 : 0 ≤ (x8_2 : Int) := od_
          have q293 : x8_2 < (x4_1.length : Int) := od_
          obtain ⟨ad293, e293, hx293_0⟩ := Kd.at_int (Kd.R_reads' HO_4.out).2.2 x8_2 p293 q293
          obtain rfl : ad292 = ad293 := (by injection e293)
          replace p293 := eq_true p293
          replace q293 := eq_true q293
          have p294 : 0 ≤ (x8_2 : Int) := od_
          have q294 : x8_2 < (x4_1.length : Int) := od_
          obtain ⟨ad294, e294, hx294_0⟩ := Kd.at_int (Kd.R_reads' HO_4.out).2.2 x8_2 p294 q294
          obtain rfl : ad292 = ad294 := (by injection e294)
          replace p294 := eq_true p294
          replace q294 := eq_true q294
          have p295 : 0 ≤ (x8_2 : Int) := od_
          have q295 : x8_2 < (x4_1.length : Int) := od_
          obtain ⟨ad295, e295, hx295_0⟩ := Kd.at_int (Kd.R_reads' HO_4.out).2.2 x8_2 p295 q295
          obtain rfl : ad292 = ad295 := (by injection e295)
          replace p295 := eq_true p295
          replace q295 := eq_true q295
          refine start_ (n := 27) (S := fun w' => w'.cell? (ad292.add (x8_2).toNat) = some (.int .i64 (rd x4_1 x8_2)) ∧ w'.cell? (ad292.add (x8_2).toNat) = some (.int .i64 (rd x4_1 x8_2)) ∧ w'.cell? (ad292.add (x8_2).toNat) = some (.int .i64 (rd x4_1 x8_2)) ∧ w'.cell? (ad292.add (x8_2).toNat) = some (.int .i64 (rd x4_1 x8_2))) (ds := [25]) (bq_ 0 27) (by kernel_rfl) rfl rfl ⟨hx292_0, hx293_0, hx294_0, hx295_0⟩ (fun hHeld => ?_); refine with_tabW spec_Digest.tab12 spec_Digest.bits12 (fun HT_ HW_ => ?_)
          generalize wr.drew = w25 at HO_4 HO_7 HB hx292_0 hx293_0 hx294_0 hx295_0 hHeld ⊢
          refine p_ 0 32 HT_ ?_; refine p_ 1 33 HT_ ?_; refine p_ 2 34 HT_ ?_; refine p_ 3 35 HT_ ?_; refine p_ 7 39 HT_ ?_; refine p_ 8 40 HT_ ?_; refine p_ 9 41 HT_ ?_; refine p_ 13 45 HT_ ?_; refine p_ 14 46 HT_ ?_; refine p_ 15 47 HT_ ?_; refine p_ 19 51 HT_ ?_; refine p_ 20 52 HT_ ?_; refine p_ 21 53 HT_ ?_; refine k_ 4 36 HT_ HW_ hHeld ?_; refine p_ 5 37 HT_ ?_; refine p_ 6 38 HT_ ?_; refine k_ 10 42 HT_ HW_ hHeld ?_; refine p_ 11 43 HT_ ?_; refine p_ 12 44 HT_ ?_; refine k_ 16 48 HT_ HW_ hHeld ?_; refine p_ 17 49 HT_ ?_; refine p_ 18 50 HT_ ?_; refine k_ 22 54 HT_ HW_ hHeld ?_; refine p_ 23 55 HT_ ?_
          refine on_ 24 (some 56) (bq_ 25 2) HT_ (fun K hK => ?_)
          refine Kd.R_lit_step (Kd.int .u8) _ 5 ?hg (N := 56) ?hd (xs := ([((rd x4_1 x8_2) / 16777216) % 256, ((rd x4_1 x8_2) / 65536) % 256, ((rd x4_1 x8_2) / 256) % 256, (rd x4_1 x8_2) % 256] : List Int)) (inner := [.int .u8 (((rd x4_1 x8_2) / 16777216) % 256), .int .u8 (((rd x4_1 x8_2) / 65536) % 256), .int .u8 (((rd x4_1 x8_2) / 256) % 256), .int .u8 ((rd x4_1 x8_2) % 256)]) (ok := fun _ => True) (okp := fun _ => True) ?hr ?hp (fun _ hk => hk) trivial (Below.refl _ _) (Nat.le_refl _) (by simp) ?_; (case hd => rfl); (case hg => rfl); (case hr => first | (go_simp; done) | (go_simp; rfl)); (case hp => exact (Reps.one (show Kd.M (Kd.int .u8) _ _ _ (((rd x4_1 x8_2) / 16777216) % 256) [.int .u8 (((rd x4_1 x8_2) / 16777216) % 256)] from rfl) (Reps.one (show Kd.M (Kd.int .u8) _ _ _ (((rd x4_1 x8_2) / 65536) % 256) [.int .u8 (((rd x4_1 x8_2) / 65536) % 256)] from rfl) (Reps.one (show Kd.M (Kd.int .u8) _ _ _ (((rd x4_1 x8_2) / 256) % 256) [.int .u8 (((rd x4_1 x8_2) / 256) % 256)] from rfl) (Reps.one (show Kd.M (Kd.int .u8) _ _ _ ((rd x4_1 x8_2) % 256) [.int .u8 ((rd x4_1 x8_2) % 256)] from rfl) (Reps.none _ _))))))
          intro v297 w27 ho28 hb hg_ hnew_
          have HS0_ := (hb.cell (World.block_lt_of_cell? _ _ (hHeld.1))).trans (hHeld.1)
          have HS1_ := (hb.cell (World.block_lt_of_cell? _ _ (hHeld.2.1))).trans (hHeld.2.1)
          have HS2_ := (hb.cell (World.block_lt_of_cell? _ _ (hHeld.2.2.1))).trans (hHeld.2.2.1)
          have HS3_ := (hb.cell (World.block_lt_of_cell? _ _ (hHeld.2.2.2))).trans (hHeld.2.2.2)
          clear hg_ hnew_
          (first | rw [← Ny296.out] at ho28 | (simp only [Int.reduceToNat] at ho28; rw [← Ny296.out] at ho28))
          replace HO_4 := q_ (Kd.R_below (kr_ HO_4.out) hb)
          have HO298 := q_ (Kd.R_lower (Kd.R_new' ho28 (Kd.R_lt (kr_ HO_7.out))) (below_size (be_ HB.out)))
          replace HO_7 := q_ (Kd.R_elder' (kr_ HO_7.out) (Kd.R_base ho28) hb)
          replace HB := q_ (below_step (be_ HB.out) hb)
          clear hb ho28
          obtain ⟨Ao30, co30, eo30⟩ := Kd.R_slice HO298.out
          (first | subst eo30 | (injection eo30 with f1_ f2_ f3_; have f4_ := f1_.symm; have f5_ := f3_.symm; clear f1_ f2_ f3_; subst f4_; subst f5_))
          refine hK.out _ _ ⟨HS0_, HS1_, HS2_, HS3_⟩ (fun hHeld => ?_)
          clear hK K
          refine nm_ ?_
          refine last_ (i := 25) (N := some 57) (bq_ 26 1) rfl rfl (one_of HT_.out (by kernel_rfl)) (by decide) (fun K hK => ?_)
          refine Kd.R_append_rows_step (Kd.int .u8) (w0 := w) w.heap.size (by rfl) (.tmp 32) (.tmp 56) 22 5 (.int .u8 0) 1 rfl Try.underlying22 info5 rfl (by decide) (by omega) u7 x7_2 y296 _ _ _ (fun k_ => some k_ ≠ (.slice Ao30 y296.length co30 : Value).ownBlock) (fun _ => False) rfl rfl ?aO ?aR (fun _ _ h => h) (fun _ h => h.elim) ?aF ?aB ?aS ?aL ?_
          (case aR => exact kc_ (Kd.R_reads' HO298.out).2.2)
          (case aB => exact (be_ HB.out))
          (case aF => exact (fun k_ hk => Kd.fresh' (Kd.R_lt (kr_ HO298.out)) k_ hk))
          (case aO => exact (by (with_reducible repeat (first | apply Kd.R_alloc | apply Kd.R_drewN | apply Kd.R_drew)); exact Kd.R_mono HO_7.out (fun _ hk => hk.2)))
          (case aS => exact (below_size (be_ HB.out)))
          (case aL => have := LMc24.out; omega)
          intro v300 w29 ho hb hg hat
          rw [← Ny299.out] at ho
          have n0_ := q_ (Kd.R_over' (kr_ HO_4.out) (Kd.R_typed (kr_ HO_7.out)) (by decide) hg)
          have n1_ := q_ (Kd.R_after (ok := (fun _ => True)) (kr_ HO298.out) hg hat)
          have n2_ := q_ (hb)
          have n3_ := q_ (ho)
          clear HO_4
          clear HO298
          clear HB
          clear HO_7
          have HO_4 := n0_
          have HO298 := n1_
          have HB := n2_
          have HO301 := n3_
          clear n0_ n1_ n2_ n3_
          clear ho hb hg hat
          refine hK.out _ _ ?_
          clear hK K
          refine nm_ ?_
          refine p_ 26 7 HT_ ?_
          refine done_ (done_of HT_.out (by kernel_rfl)) ?_
          try go_wp2
          go_roundg k2
          case measure => have := HK1.out; have := HK2.out; omega
          case rel => exact ⟨(y299), (wrap64 (x8_2 + 1)), rs_, H', ⟨by have := HK1.out; have := HK2.out; omega⟩, ⟨by (with_reducible repeat (first | apply Kd.R_alloc | apply Kd.R_drewN | apply Kd.R_drew)); exact HO_4.out⟩, ⟨by (with_reducible repeat (first | apply Kd.R_alloc | apply Kd.R_drewN | apply Kd.R_drew)); exact Kd.R_mono HO301.out (fun _ hk => trivial)⟩, ⟨be_ HB.out⟩⟩
        · rw [if_neg c21] at H
          have c21b0 := decide_eq_false c21
          clear c21
          obtain rfl := Option.some.inj H
          have hcv31 := own_string (P := Try.prog) Try.underlying22 Try.underlying5 Try.underlying9 (Kd.own_of_R HO_7.out)
          go_wp2
          go_ret
          exact ⟨rf_, be_ HB.out⟩

/-! ###  spec_PutNum: function 110 -/
mutual
def spec_PutNum.j0 : Nat → Int → List Int → Option (List Int)
  | 0, _, _ => none
  | k + 1, x1, x5 => if x1 < 0 then (spec_PutNum.j1 k 0 x5) else (spec_PutNum.j1 k x1 x5)
def spec_PutNum.j1 : Nat → Int → List Int → Option (List Int)
  | 0, _, _ => none
  | k + 1, x1, x5 => spec_PutNum.l0 k x1 x5
def spec_PutNum.l0 : Nat → Int → List Int → Option (List Int)
  | 0, _, _ => none
  | k + 1, x1, x5 => if x1 > 127 then (if x5.length < 140737488355328 then (spec_PutNum.l0 k (x1 / 128) (x5 ++ [(Go.bits .or .i64 (Go.bits .and .i64 x1 127) 128) % 256])) else (none)) else (if x5.length < 140737488355328 then (some (x5 ++ [(x1) % 256])) else (none))
end
def spec_PutNum.f (k : Nat) (l0 : List Int) (a1 : Int) : Option (List Int) := (some (([] : List Int) : List Int)).bind fun y302 => (if y302.length + l0.length < 140737488355328 then ((some (y302 ++ l0 : List Int)).bind fun y305 => (if a1 > 1000000000 then (spec_PutNum.j0 k 1000000000 y305) else (spec_PutNum.j0 k a1 y305))) else (none))
set_option maxHeartbeats 8000000 in
set_option maxRecDepth 100000 in
theorem spec_PutNum.calls (k : Nat) (A0 : Option Addr) (c0 : Nat) (l0 : List Int) (a1 : Int) (r : List Int) (w : World) (hr0 : Kd.C (Kd.int .u8) w A0 l0.length l0) (hc0 : l0.length ≤ c0) (h : spec_PutNum.f k l0 a1 = some r) :
  Calls Try.prog 110 #[.slice A0 l0.length c0, .int .i64 a1] w fun e w' => ∃ v0_ : Value, e = .returned (v0_) ∧ Kd.R (Kd.int .u8) 5 w' w.heap.size (fun _ => True) v0_ r ∧ Below w.heap.size w w' := by
  have HR0 := Aside0.mk hr0
  have HC0 := Aside0.mk hc0
  clear hr0 hc0
  have HB := q_ (Below.refl w.heap.size w)
  have H := h
  clear h
  unfold spec_PutNum.f at H
  obtain ⟨y302, Ny302, H⟩ := by_ H
  obtain ⟨c3, H⟩ := ip_ H
  have LMc3 := Aside0.mk c3
  clear c3
  obtain ⟨y305, Ny305, H⟩ := by_ H
  have HC4 := Aside0.mk H
  clear H
  go_enter Try.func110, Try.ntmps110
  go_upto_if 10 with (first | ((with_reducible refine gate_dst (N := 6) rfl ?_); refine Kd.R_lit (Kd.int .u8) _ 5 ?hg (N := 6) ?hd (xs := ([] : List Int)) (inner := []) (ok := fun _ => True) (okp := fun _ => True) ?hr ?hp (fun _ hk => hk) trivial (Below.refl _ _) (Nat.le_refl _) (by simp) ?_; (case hd => rfl); (case hg => rfl); (case hr => first | (go_simp; done) | (go_simp; rfl)); (case hp => exact (Reps.none _ _)); intro v303 w5 ho6 hb hg_ hnew_; clear hg_ hnew_; (first | rw [← Ny302.out] at ho6 | (simp only [Int.reduceToNat] at ho6; rw [← Ny302.out] at ho6)); have HO304 := q_ (Kd.R_lower ho6 (below_size (be_ HB.out))); replace HB := q_ (below_step (be_ HB.out) hb); clear hb ho6) | ((with_reducible refine gate_builtin (b := .append) (xs := #[.tmp 6, .tmp 7]) rfl ?_); at_builtin; refine Kd.R_append_rows (Kd.int .u8) (w0 := w) w.heap.size rfl (.tmp 6) (.tmp 7) 22 5 (.int .u8 0) 1 rfl Try.underlying22 info5 rfl (by decide) (by omega) v303 y302 l0 _ _ _ (fun _ => True) (fun _ => False) rfl rfl ?aO ?aR (fun _ _ h => h) (fun _ h => h.elim) ?aF ?aB ?aS ?aL ?_; (case aR => exact kc_ (Kd.C_below HR0.out HB.out)); (case aB => exact (be_ HB.out)); (case aF => exact (fun _ _ => trivial)); (case aO => exact (kr_ HO304.out)); (case aS => exact (below_size (be_ HB.out))); (case aL => have := LMc3.out; omega); intro v306 w7 ho hb hg hat; rw [← Ny305.out] at ho; have n0_ := q_ (hb); have n1_ := q_ (ho); clear HB; clear HO304; have HB := n0_; have HO307 := n1_; clear n0_ n1_; clear ho hb hg hat))
  (try simp only [Act.put, sa_, sz_, ss_])
  go_cut [1] (fun v1 wc => ∃ (kq : Nat) (x1_3 : Int), v1 = .int .i64 x1_3 ∧ Aside0 (spec_PutNum.j0 kq x1_3 y305 = some r) ∧ Aside0 (kq ≤ k) ∧ Aside0 (Kd.R (Kd.int .u8) 5 wc w.heap.size (fun _ => True) v306 y305) ∧ Aside0 (Below w.heap.size w wc))
  case first =>
   have H := HC4.out
   clear HC4
   by_cases c8 : a1 > 1000000000
   rotate_left
   · rw [if_neg c8] at H
     have c8b0 : decide (1000000000 < a1) = false := decide_eq_false c8
     clear c8
     (first | rw [c8b0] | (simp only [i64_w, i32_w]; rw [c8b0]) | skip)
     have H' := Aside0.mk H
     clear H
     go_wp2
     go_meet
     case rel => exact ⟨_, (a1), rs_, H', ⟨by first | omega | exact Nat.le_refl _⟩, ⟨by (with_reducible repeat (first | apply Kd.R_alloc | apply Kd.R_drewN | apply Kd.R_drew)); exact HO307.out⟩, ⟨be_ HB.out⟩⟩
   rw [if_pos c8] at H
   have c8b0 : decide (1000000000 < a1) = true := decide_eq_true c8
   clear c8
   (first | rw [c8b0] | (simp only [i64_w, i32_w]; rw [c8b0]) | skip)
   have H' := Aside0.mk H
   clear H
   go_wp2
   go_meet
   case rel => exact ⟨_, (1000000000), rs_, H', ⟨by first | omega | exact Nat.le_refl _⟩, ⟨by (with_reducible repeat (first | apply Kd.R_alloc | apply Kd.R_drewN | apply Kd.R_drew)); exact HO307.out⟩, ⟨be_ HB.out⟩⟩
  case rest =>
   clear HC4
   try clear c1
   try clear p2
   try clear c3
   try clear c8
   try clear c8b0
   obtain ⟨kq, x1_3, rfl, HA, HJ3, HO_5, HB⟩ := hcut
   cases kq with
   | zero => exact absurd HA.out (by simp [spec_PutNum.j0])
   | succ kj3 =>
    have H := HA.out
    clear HA
    simp only [spec_PutNum.j0] at H
    have HC9 := Aside0.mk H
    clear H
    go_upto_if 12 with (fail)
    go_cut [1] (fun v1 wc => ∃ (kq : Nat) (x1_8 : Int), v1 = .int .i64 x1_8 ∧ Aside0 (spec_PutNum.j1 kq x1_8 y305 = some r) ∧ Aside0 (kq ≤ kj3) ∧ Aside0 (Kd.R (Kd.int .u8) 5 wc w.heap.size (fun _ => True) v306 y305) ∧ Aside0 (Below w.heap.size w wc))
    case first =>
     have H := HC9.out
     clear HC9
     by_cases c10 : x1_3 < 0
     · rw [if_pos c10] at H
       have c10b0 := decide_eq_true c10
       clear c10
       (first | rw [c10b0] | (simp only [i64_w, i32_w]; rw [c10b0]) | skip)
       have H' := Aside0.mk H
       clear H
       go_wp2
       go_meet
       case rel => exact ⟨_, (0), rs_, H', ⟨by have := HJ3.out; first | omega | exact Nat.le_refl _⟩, ⟨by (with_reducible repeat (first | apply Kd.R_alloc | apply Kd.R_drewN | apply Kd.R_drew)); exact HO_5.out⟩, ⟨be_ HB.out⟩⟩
     rw [if_neg c10] at H
     have c10b0 := decide_eq_false c10
     clear c10
     (first | rw [c10b0] | (simp only [i64_w, i32_w]; rw [c10b0]) | skip)
     have H' := Aside0.mk H
     clear H
     go_wp2
     go_meet
     case rel => exact ⟨_, (x1_3), rs_, H', ⟨by have := HJ3.out; first | omega | exact Nat.le_refl _⟩, ⟨by (with_reducible repeat (first | apply Kd.R_alloc | apply Kd.R_drewN | apply Kd.R_drew)); exact HO_5.out⟩, ⟨be_ HB.out⟩⟩
    case rest =>
     clear HC9
     try clear c1
     try clear p2
     try clear c3
     try clear c8
     try clear c8b0
     try clear c10
     try clear c10b0
     try clear p2
     obtain ⟨kq, x1_8, rfl, HA, HJ8, HO_5, HB⟩ := hcut
     cases kq with
     | zero => exact absurd HA.out (by simp [spec_PutNum.j1])
     | succ kj8 =>
      have H := HA.out
      clear HA
      simp only [spec_PutNum.j1] at H
      have H' := Aside0.mk H
      clear H
      go_wp2
      go_loopg [1, 5] kj8 (fun kq v1 v5 w' => ∃ (x1_3 : Int) (x5_3 : List Int), v1 = .int .i64 x1_3 ∧ Aside0 (spec_PutNum.l0 kq x1_3 x5_3 = some r) ∧ Aside0 (kq ≤ kj8) ∧ Aside0 (Kd.R (Kd.int .u8) 5 w' w.heap.size (fun _ => True) v5 x5_3) ∧ Aside0 (Below w.heap.size w w'))
      case atStart => exact ⟨(x1_8), (y305), rs_, H', ⟨Nat.le_refl _⟩, ⟨by (with_reducible repeat (first | apply Kd.R_alloc | apply Kd.R_drewN | apply Kd.R_drew)); exact HO_5.out⟩, ⟨be_ HB.out⟩⟩
      case round =>
       clear H'
       try clear c1
       try clear p2
       try clear c3
       try clear c8
       try clear c8b0
       try clear c10
       try clear c10b0
       try clear p2
       obtain ⟨x1_3, x5_3, rfl, HA, HK3, HO_5, HB⟩ := hrel
       cases gk with
       | zero => exact absurd HA.out (by simp [spec_PutNum.l0])
       | succ k3 =>
        have H := HA.out
        clear HA
        simp only [spec_PutNum.l0] at H
        by_cases c11 : x1_3 > 127
        · rw [if_pos c11] at H
          have c11b0 : decide (127 < x1_3) = true := decide_eq_true c11
          clear c11
          obtain ⟨c12, H⟩ := ip_ H
          have LMc12 := Aside0.mk c12
          clear c12
          obtain ⟨y308, hy308⟩ : ∃ y_ : List Int, y_ = (x5_3 ++ [(Go.bits .or .i64 (Go.bits .and .i64 x1_3 127) 128) % 256]) := ⟨_, rfl⟩
          replace H : (spec_PutNum.l0 k3 (x1_3 / 128) y308) = some r := ry_ hy308 H
          have Ny308 := Aside0.mk hy308
          clear hy308
          have H' := Aside0.mk H
          clear H
          go_wp2_with (first | ((with_reducible refine gate_builtin (b := .append) (xs := #[.tmp 15, .tmp 20]) rfl ?_); at_builtin; refine Kd.R_append (Kd.int .u8) (w0 := w) w.heap.size rfl (.tmp 15) (.tmp 20) 22 5 (.int .u8 0) 1 rfl Try.underlying22 info5 rfl (by decide) (by omega) u5 x5_3 ((Go.bits .or .i64 (Go.bits .and .i64 x1_3 127) 128) % 256) [.int .u8 ((Go.bits .or .i64 (Go.bits .and .i64 x1_3 127) 128) % 256)] (fun _ => True) (fun _ => False) rfl rfl ?aP (fun _ hk => hk.elim) ?aF ?aO ?aB ?aS ?aL ?_; (case aP => exact rfl); (case aB => exact (be_ HB.out)); (case aF => exact (fun _ _ => trivial)); (case aO => exact (kr_ HO_5.out)); (case aS => exact (below_size (be_ HB.out))); (case aL => have := LMc12.out; omega); intro v309 w13 ho hb hg hat; rw [← Ny308.out] at ho; have n0_ := q_ (hb); have n1_ := q_ (ho); clear HB; clear HO_5; have HB := n0_; have HO310 := n1_; clear n0_ n1_; clear ho hb hg hat))
          go_roundg k3
          case measure => have := HJ3.out; have := HJ8.out; have := HK3.out; omega
          case rel => exact ⟨(x1_3 / 128), (y308), rs_, H', ⟨by have := HJ3.out; have := HJ8.out; have := HK3.out; omega⟩, ⟨by (with_reducible repeat (first | apply Kd.R_alloc | apply Kd.R_drewN | apply Kd.R_drew)); exact HO310.out⟩, ⟨be_ HB.out⟩⟩
        · rw [if_neg c11] at H
          have c11b0 : decide (127 < x1_3) = false := decide_eq_false c11
          clear c11
          obtain ⟨c14, H⟩ := ip_ H
          have LMc14 := Aside0.mk c14
          clear c14
          obtain ⟨y311, hy311⟩ : ∃ y_ : List Int, y_ = (x5_3 ++ [(x1_3) % 256]) := ⟨_, rfl⟩
          replace H : (some y311) = some r := ry_ hy311 H
          have Ny311 := Aside0.mk hy311
          clear hy311
          obtain rfl := Option.some.inj H
          go_wp2_with (first | ((with_reducible refine gate_builtin (b := .append) (xs := #[.tmp 24, .tmp 27]) rfl ?_); at_builtin; refine Kd.R_append (Kd.int .u8) (w0 := w) w.heap.size rfl (.tmp 24) (.tmp 27) 22 5 (.int .u8 0) 1 rfl Try.underlying22 info5 rfl (by decide) (by omega) u5 x5_3 ((x1_3) % 256) [.int .u8 ((x1_3) % 256)] (fun _ => True) (fun _ => False) rfl rfl ?aP (fun _ hk => hk.elim) ?aF ?aO ?aB ?aS ?aL ?_; (case aP => exact rfl); (case aB => exact (be_ HB.out)); (case aF => exact (fun _ _ => trivial)); (case aO => exact (kr_ HO_5.out)); (case aS => exact (below_size (be_ HB.out))); (case aL => have := LMc14.out; omega); intro v312 w15 ho hb hg hat; rw [← Ny311.out] at ho; have n0_ := q_ (hb); have n1_ := q_ (ho); clear HB; clear HO_5; have HB := n0_; have HO313 := n1_; clear n0_ n1_; clear ho hb hg hat))
          go_ret
          exact ⟨_, rf_, by (with_reducible repeat (first | apply Kd.R_alloc | apply Kd.R_drewN | apply Kd.R_drew)); exact HO313.out, be_ HB.out⟩

/-! ###  spec_PutText: function 92 -/
def spec_PutText.f (k : Nat) (l0 : List Int) (a1 : ByteArray) : Option (List Int) := (spec_PutNum.f k l0 (a1.size : Int)).bind fun t314 => (if t314.length + a1.size < 140737488355328 then (some (t314 ++ bytesOf a1)) else (none))
set_option maxHeartbeats 8000000 in
set_option maxRecDepth 100000 in
theorem spec_PutText.calls (k : Nat) (A0 : Option Addr) (c0 : Nat) (l0 : List Int) (a1 : ByteArray) (r : List Int) (w : World) (hr0 : Kd.C (Kd.int .u8) w A0 l0.length l0) (hc0 : l0.length ≤ c0) (h : spec_PutText.f k l0 a1 = some r) :
  Calls Try.prog 92 #[.slice A0 l0.length c0, .string a1] w fun e w' => ∃ v0_ : Value, e = .returned (v0_) ∧ Kd.R (Kd.int .u8) 5 w' w.heap.size (fun _ => True) v0_ r ∧ Below w.heap.size w w' := by
  have HR0 := Aside0.mk hr0
  have HC0 := Aside0.mk hc0
  clear hr0 hc0
  have HB := q_ (Below.refl w.heap.size w)
  have H := h
  clear h
  unfold spec_PutText.f at H
  obtain ⟨t314, A3, H⟩ := bo_ H
  obtain ⟨c4, H⟩ := ip_ H
  have LMc4 := Aside0.mk c4
  clear c4
  obtain ⟨y317, hy317⟩ : ∃ y_ : List Int, y_ = (t314 ++ bytesOf a1) := ⟨_, rfl⟩
  replace H : (some y317) = some r := ry_ hy317 H
  have Ny317 := Aside0.mk hy317
  clear hy317
  obtain rfl := Option.some.inj H
  go_enter Try.func92, Try.ntmps92
  go_wp2_with (first | ((with_reducible refine gate_callee (f := 110) rfl ?_); refine gl_ (some 8) Try.func110 #[.slice A0 l0.length c0, .int .i64 (a1.size : Int)] rfl al_ ?_; (with_reducible refine (spec_PutNum.calls k _ _ l0 (a1.size : Int) t314 _ ?side1 ?side2 A3.out).mono ?_); (case side1 => exact kc_ HR0.out); (case side2 => exact HC0.out); rintro e w5 ⟨v315, rfl, ho0, hb⟩; refine ⟨_, rfl, ?_⟩; have HO316 := q_ (Kd.R_lower ho0 (below_size (be_ HB.out))); replace HB := q_ (below_step (be_ HB.out) hb); (try clear hb); (try clear ho0)) | ((with_reducible refine gate_builtin (b := .append) (xs := #[.tmp 8, _]) rfl ?_); at_builtin; refine Kd.R_append_str (w0 := w) w.heap.size rfl (.tmp 8) _ 22 9 5 rfl Try.underlying22 Try.underlying9 info5 v315 t314 a1 (fun _ => True) rfl rfl ?aF ?aO ?aB ?aS ?aL ?_; (case aB => exact (be_ HB.out)); (case aF => exact (fun _ _ => trivial)); (case aO => exact (kr_ HO316.out)); (case aS => exact (below_size (be_ HB.out))); (case aL => have := LMc4.out; omega); intro v318 w6 ho hb hg hat; rw [← Ny317.out] at ho; have n0_ := q_ (hb); have n1_ := q_ (ho); clear HB; clear HO316; have HB := n0_; have HO319 := n1_; clear n0_ n1_; clear ho hb hg hat))
  go_ret
  exact ⟨_, rf_, by (with_reducible repeat (first | apply Kd.R_alloc | apply Kd.R_drewN | apply Kd.R_drew)); exact HO319.out, be_ HB.out⟩

/-! ###  spec_l4Leaf: function 49 -/
def spec_l4Leaf.f (k : Nat) (a0_0 : ByteArray) (a0_1 : ByteArray) : Option (List Int) := (spec_PutText.f k (([0] : List Int)) a0_0).bind fun t324 => ((spec_PutText.f k t324 a0_1).bind fun t327 => (some t327))
def spec_l4Leaf.T1 : Bool × List (List Nat × List Nat) := (true, [([], []), ([], []), ([1], [1]), ([0, 2], [0, 2]), ([], []), ([4], [4]), ([3, 5, 3], [3, 5]), ([6, 6, 0, 1, 2, 3, 4, 5, 6], [6])])
def spec_l4Leaf.B1 : List Nat := [0, 0, 2, 7, 0, 16, 63, 127]
theorem spec_l4Leaf.tab1 : rtab .any (opsOf Try.f49 1) = spec_l4Leaf.T1 := by kernel_rfl
theorem spec_l4Leaf.bits1 : waitsOk spec_l4Leaf.T1.2 spec_l4Leaf.B1 = true := by kernel_rfl
set_option maxHeartbeats 8000000 in
set_option maxRecDepth 100000 in
theorem spec_l4Leaf.calls (k : Nat) (a0_0 : ByteArray) (a0_1 : ByteArray) (r : List Int) (w : World) (h : spec_l4Leaf.f k a0_0 a0_1 = some r) :
  Calls Try.prog 49 #[.agg #[.string a0_0, .string a0_1]] w fun e w' => ∃ v0_ : Value, e = .returned (v0_) ∧ Kd.R (Kd.int .u8) 5 w' w.heap.size (fun _ => True) v0_ r ∧ Below w.heap.size w w' := by
  have hu26 := Try.underlying26
  have HB := q_ (Below.refl w.heap.size w)
  have H := h
  clear h
  unfold spec_l4Leaf.f at H
  obtain ⟨y321, hy321⟩ : ∃ y_ : List Int, y_ = (([0] : List Int)) := ⟨_, rfl⟩
  replace H : ((spec_PutText.f k y321 a0_0).bind fun t324 => ((spec_PutText.f k t324 a0_1).bind fun t327 => (some t327))) = some r := ry_ hy321 H
  have Ny321 := Aside0.mk hy321
  clear hy321
  obtain ⟨t324, A2, H⟩ := bo_ H
  obtain ⟨t327, A3, H⟩ := bo_ H
  obtain rfl := Option.some.inj H
  go_enter Try.func49, Try.ntmps49
  try go_wp2_with (first | ((with_reducible refine gate_dst (N := 1) rfl ?_); refine box_event rfl (N := 1) rfl (cs := #[.string a0_0, .string a0_1]) (t := 26) hr_ ?_; intro gb320 hg w4 hbox hb; have BK320 := q_ (hbox); have GW320 := q_ ((by rw [hg]; exact (below_size (be_ HB.out)) : w.heap.size ≤ gb320)); have GE320 := q_ ((by rw [hg]; exact (below_size (be_ HB.out)) : w.heap.size ≤ gb320)); replace HB := q_ (below_step (be_ HB.out) hb); clear hb hbox hg))
  replace BK320 := q_ (blk_drew BK320.out)
  replace HB := q_ (below_drew1 HB.out)
  refine start_ (n := 8) (S := fun w' => w'.cell? ⟨gb320, 0, none⟩ = some (.string a0_0) ∧ w'.cell? ⟨gb320, 1, none⟩ = some (.string a0_1)) (ds := []) (bq_ 0 8) (by kernel_rfl) rfl rfl ⟨(blk_cell BK320.out 0).trans rfl, (blk_cell BK320.out 1).trans rfl⟩ (fun hHeld => ?_); refine with_tabW spec_l4Leaf.tab1 spec_l4Leaf.bits1 (fun HT_ HW_ => ?_)
  generalize w4.drew = w5 at BK320 HB hHeld ⊢
  refine p_ 1 4 HT_ ?_; refine p_ 4 7 HT_ ?_; refine k_ 2 5 HT_ HW_ hHeld ?_; refine k_ 5 8 HT_ HW_ hHeld ?_
  refine on_ 0 (some 3) (br_ [3, 1, 2, 2]) HT_ (fun K hK => ?_)
  refine Kd.R_lit_step (Kd.int .u8) _ 5 ?hg (N := 3) ?hd (xs := ([0] : List Int)) (inner := [.int .u8 0]) (ok := fun _ => True) (okp := fun _ => True) ?hr ?hp (fun _ hk => hk) trivial (Below.refl _ _) (Nat.le_refl _) (by simp) ?_; (case hd => rfl); (case hg => rfl); (case hr => first | (go_simp; done) | (go_simp; rfl)); (case hp => exact (Reps.one (show Kd.M (Kd.int .u8) _ _ _ 0 [.int .u8 0] from rfl) (Reps.none _ _)))
  intro v322 w6 ho7 hb hg_ hnew_
  clear hg_ hnew_
  (first | rw [← Ny321.out] at ho7 | (simp only [Int.reduceToNat] at ho7; rw [← Ny321.out] at ho7))
  have HO323 := q_ (Kd.R_lower ho7 (below_size (bs_ HB.out GE320.out)))
  replace BK320 := q_ (bb_ BK320.out hb)
  replace HB := q_ (below_step (bs_ HB.out GE320.out) hb)
  clear hb ho7
  obtain ⟨Ao8, co8, eo8⟩ := Kd.R_slice HO323.out
  (first | subst eo8 | (injection eo8 with f1_ f2_ f3_; have f4_ := f1_.symm; have f5_ := f3_.symm; clear f1_ f2_ f3_; subst f4_; subst f5_))
  refine hK.out _ _ ⟨(blk_cell BK320.out 0).trans rfl, (blk_cell BK320.out 1).trans rfl⟩ (fun hHeld => ?_)
  clear hK K
  refine nm_ ?_
  refine oc_ 3 6 (bq_ 6 2) HT_ Try.func92 #[.slice Ao8 y321.length co8, .string a0_0] ?_
  with_reducible refine (spec_PutText.calls k _ _ y321 a0_0 t324 _ ?side1 ?side2 A2.out).mono ?_
  (case side1 => exact kc_ (Kd.R_reads' HO323.out).2.2)
  (case side2 => exact (Kd.R_reads' HO323.out).2.1)
  rintro e w9 ⟨v325, rfl, ho0, hb⟩
  refine ⟨_, rfl, ?_⟩
  have HO326 := q_ (Kd.R_lower (Kd.R_new' ho0 (Kd.R_lt (kr_ HO323.out))) (below_size (bs_ HB.out GE320.out)))
  replace HO323 := q_ (Kd.R_elder' (kr_ HO323.out) (Kd.R_base ho0) hb)
  replace BK320 := q_ (bb_ BK320.out hb)
  replace HB := q_ (below_step (bs_ HB.out GE320.out) hb)
  (try clear hb)
  (try clear hb2)
  (try clear hk)
  (try clear hi)
  (try clear ho0)
  obtain ⟨Ao10, co10, eo10⟩ := Kd.R_slice HO326.out
  (first | subst eo10 | (injection eo10 with f1_ f2_ f3_; have f4_ := f1_.symm; have f5_ := f3_.symm; clear f1_ f2_ f3_; subst f4_; subst f5_))
  refine ⟨⟨(blk_cell BK320.out 0).trans rfl, (blk_cell BK320.out 1).trans rfl⟩, fun hHeld => nm_ ?_⟩
  refine oc_ 6 9 (bq_ 7 1) HT_ Try.func92 #[.slice Ao10 t324.length co10, .string a0_1] ?_
  with_reducible refine (spec_PutText.calls k _ _ t324 a0_1 t327 _ ?side1 ?side2 A3.out).mono ?_
  (case side1 => exact kc_ (Kd.R_reads' HO326.out).2.2)
  (case side2 => exact (Kd.R_reads' HO326.out).2.1)
  rintro e w11 ⟨v328, rfl, ho0, hb⟩
  refine ⟨_, rfl, ?_⟩
  have HO329 := q_ (Kd.R_lower (Kd.R_new' (Kd.R_new' ho0 (Kd.R_lt (kr_ HO323.out))) (Kd.R_lt (kr_ HO326.out))) (below_size (bs_ HB.out GE320.out)))
  replace HO323 := q_ (Kd.R_elder' (kr_ HO323.out) (Kd.R_base ho0) hb)
  replace HO326 := q_ (Kd.R_elder' (kr_ HO326.out) (Kd.R_base ho0) hb)
  replace BK320 := q_ (bb_ BK320.out hb)
  replace HB := q_ (below_step (bs_ HB.out GE320.out) hb)
  (try clear hb)
  (try clear hb2)
  (try clear hk)
  (try clear hi)
  (try clear ho0)
  refine ⟨⟨(blk_cell BK320.out 0).trans rfl, (blk_cell BK320.out 1).trans rfl⟩, fun hHeld => nm_ ?_⟩
  refine p_ 7 2 HT_ ?_
  refine done_ (done_of HT_.out (by kernel_rfl)) ?_
  try go_wp2
  go_ret
  exact ⟨_, rf_, by (with_reducible repeat (first | apply Kd.R_alloc | apply Kd.R_drewN | apply Kd.R_drew)); exact Kd.R_mono HO329.out (fun _ hk => trivial), bs_ HB.out GE320.out⟩

/-! ###  spec_LeafOf: function 102 -/
def spec_LeafOf.f (k : Nat) (a0_0 : ByteArray) (a0_1 : ByteArray) : Option (ByteArray) := (spec_l4Leaf.f k a0_0 a0_1).bind fun t331 => ((spec_Digest.f k t331).bind fun t334 => (some t334))
set_option maxHeartbeats 8000000 in
set_option maxRecDepth 100000 in
theorem spec_LeafOf.calls (k : Nat) (a0_0 : ByteArray) (a0_1 : ByteArray) (r : ByteArray) (w : World) (h : spec_LeafOf.f k a0_0 a0_1 = some r) :
  Calls Try.prog 102 #[.agg #[.string a0_0, .string a0_1]] w fun e w' => e = .returned (.string r) ∧ Below w.heap.size w w' := by
  have hu26 := Try.underlying26
  have HB := q_ (Below.refl w.heap.size w)
  have H := h
  clear h
  unfold spec_LeafOf.f at H
  obtain ⟨t331, A2, H⟩ := bo_ H
  obtain ⟨t334, A3, H⟩ := bo_ H
  obtain rfl := Option.some.inj H
  go_enter Try.func102, Try.ntmps102
  go_wp2_with (first | ((with_reducible refine gate_dst (N := 1) rfl ?_); refine box_event rfl (N := 1) rfl (cs := #[.string a0_0, .string a0_1]) (t := 26) hr_ ?_; intro gb330 hg w4 hbox hb; have BK330 := q_ (hbox); have GW330 := q_ ((by rw [hg]; exact (below_size (be_ HB.out)) : w.heap.size ≤ gb330)); have GE330 := q_ ((by rw [hg]; exact (below_size (be_ HB.out)) : w.heap.size ≤ gb330)); replace HB := q_ (below_step (be_ HB.out) hb); clear hb hbox hg; obtain ⟨hcz5_0, hcz5_1, hfz5_0, hfz5_1⟩ := bx2_ BK330.out) | ((with_reducible refine gate_callee (f := 49) rfl ?_); refine gl_ (some 4) Try.func49 #[.agg #[.string a0_0, .string a0_1]] rfl al_ ?_; (with_reducible refine (spec_l4Leaf.calls k a0_0 a0_1 t331 _ A2.out).mono ?_); rintro e w6 ⟨v332, rfl, ho0, hb⟩; refine ⟨_, rfl, ?_⟩; have HO333 := q_ (Kd.R_lower ho0 (below_size (bs_ HB.out GE330.out))); replace BK330 := q_ (bb_ BK330.out hb); replace HB := q_ (below_step (bs_ HB.out GE330.out) hb); (try clear hb); (try clear ho0); obtain ⟨Ao7, co7, eo7⟩ := Kd.R_slice HO333.out; subst eo7) | ((with_reducible refine gate_callee (f := 39) rfl ?_); refine gl_ (some 5) Try.func39 #[.slice Ao7 t331.length co7] rfl al_ ?_; (with_reducible refine (spec_Digest.calls k _ _ t331 t334 _ ?side1 ?side2 A3.out).mono ?_); (case side1 => exact kc_ (Kd.R_reads' HO333.out).2.2); (case side2 => exact (Kd.R_reads' HO333.out).2.1); rintro e w8 ⟨rfl, hb⟩; refine ⟨_, rfl, ?_⟩; replace HO333 := q_ (Kd.R_below (kr_ HO333.out) hb); replace BK330 := q_ (bb_ BK330.out hb); replace HB := q_ (below_step (bs_ HB.out GE330.out) hb); (try clear hb)))
  go_ret
  exact ⟨rf_, bs_ HB.out GE330.out⟩

/-! ###  spec_l4Node: function 109 -/
def spec_l4Node.f (a0 : ByteArray) (a1 : ByteArray) : Option (List Int) := (some (([1] : List Int) : List Int)).bind fun y335 => (if y335.length + a0.size < 140737488355328 then ((some (y335 ++ bytesOf a0 : List Int)).bind fun y338 => (if y338.length + a1.size < 140737488355328 then (some (y338 ++ bytesOf a1)) else (none))) else (none))
set_option maxHeartbeats 8000000 in
set_option maxRecDepth 100000 in
theorem spec_l4Node.calls (a0 : ByteArray) (a1 : ByteArray) (r : List Int) (w : World) (h : spec_l4Node.f a0 a1 = some r) :
  Calls Try.prog 109 #[.string a0, .string a1] w fun e w' => ∃ v0_ : Value, e = .returned (v0_) ∧ Kd.R (Kd.int .u8) 5 w' w.heap.size (fun _ => True) v0_ r ∧ Below w.heap.size w w' := by
  have HB := q_ (Below.refl w.heap.size w)
  have H := h
  clear h
  unfold spec_l4Node.f at H
  obtain ⟨y335, Ny335, H⟩ := by_ H
  obtain ⟨c3, H⟩ := ip_ H
  have LMc3 := Aside0.mk c3
  clear c3
  obtain ⟨y338, Ny338, H⟩ := by_ H
  obtain ⟨c4, H⟩ := ip_ H
  have LMc4 := Aside0.mk c4
  clear c4
  obtain ⟨y341, hy341⟩ : ∃ y_ : List Int, y_ = (y338 ++ bytesOf a1) := ⟨_, rfl⟩
  replace H : (some y341) = some r := ry_ hy341 H
  have Ny341 := Aside0.mk hy341
  clear hy341
  obtain rfl := Option.some.inj H
  go_enter Try.func109, Try.ntmps109
  go_wp2_with (first | ((with_reducible refine gate_dst (N := 5) rfl ?_); refine Kd.R_lit (Kd.int .u8) _ 5 ?hg (N := 5) ?hd (xs := ([1] : List Int)) (inner := [.int .u8 1]) (ok := fun _ => True) (okp := fun _ => True) ?hr ?hp (fun _ hk => hk) trivial (Below.refl _ _) (Nat.le_refl _) (by simp) ?_; (case hd => rfl); (case hg => rfl); (case hr => first | (go_simp; done) | (go_simp; rfl)); (case hp => exact (Reps.one (show Kd.M (Kd.int .u8) _ _ _ 1 [.int .u8 1] from rfl) (Reps.none _ _))); intro v336 w5 ho6 hb hg_ hnew_; clear hg_ hnew_; (first | rw [← Ny335.out] at ho6 | (simp only [Int.reduceToNat] at ho6; rw [← Ny335.out] at ho6)); have HO337 := q_ (Kd.R_lower ho6 (below_size (be_ HB.out))); replace HB := q_ (below_step (be_ HB.out) hb); clear hb ho6) | ((with_reducible refine gate_builtin (b := .append) (xs := #[.tmp 5, _]) rfl ?_); at_builtin; refine Kd.R_append_str (w0 := w) w.heap.size rfl (.tmp 5) _ 22 9 5 rfl Try.underlying22 Try.underlying9 info5 v336 y335 a0 (fun _ => True) rfl rfl ?aF ?aO ?aB ?aS ?aL ?_; (case aB => exact (be_ HB.out)); (case aF => exact (fun _ _ => trivial)); (case aO => exact (kr_ HO337.out)); (case aS => exact (below_size (be_ HB.out))); (case aL => have := LMc3.out; omega); intro v339 w7 ho hb hg hat; rw [← Ny338.out] at ho; have n0_ := q_ (hb); have n1_ := q_ (ho); clear HB; clear HO337; have HB := n0_; have HO340 := n1_; clear n0_ n1_; clear ho hb hg hat) | ((with_reducible refine gate_builtin (b := .append) (xs := #[.tmp 7, _]) rfl ?_); at_builtin; refine Kd.R_append_str (w0 := w) w.heap.size rfl (.tmp 7) _ 22 9 5 rfl Try.underlying22 Try.underlying9 info5 v339 y338 a1 (fun _ => True) rfl rfl ?aF ?aO ?aB ?aS ?aL ?_; (case aB => exact (be_ HB.out)); (case aF => exact (fun _ _ => trivial)); (case aO => exact (kr_ HO340.out)); (case aS => exact (below_size (be_ HB.out))); (case aL => have := LMc4.out; omega); intro v342 w8 ho hb hg hat; rw [← Ny341.out] at ho; have n0_ := q_ (hb); have n1_ := q_ (ho); clear HB; clear HO340; have HB := n0_; have HO343 := n1_; clear n0_ n1_; clear ho hb hg hat))
  go_ret
  exact ⟨_, rf_, by (with_reducible repeat (first | apply Kd.R_alloc | apply Kd.R_drewN | apply Kd.R_drew)); exact HO343.out, be_ HB.out⟩

/-! ###  spec_NodeOf: function 103 -/
def spec_NodeOf.f (k : Nat) (a0 : ByteArray) (a1 : ByteArray) : Option (ByteArray) := (spec_l4Node.f a0 a1).bind fun t344 => ((spec_Digest.f k t344).bind fun t347 => (some t347))
set_option maxHeartbeats 8000000 in
set_option maxRecDepth 100000 in
theorem spec_NodeOf.calls (k : Nat) (a0 : ByteArray) (a1 : ByteArray) (r : ByteArray) (w : World) (h : spec_NodeOf.f k a0 a1 = some r) :
  Calls Try.prog 103 #[.string a0, .string a1] w fun e w' => e = .returned (.string r) ∧ Below w.heap.size w w' := by
  have HB := q_ (Below.refl w.heap.size w)
  have H := h
  clear h
  unfold spec_NodeOf.f at H
  obtain ⟨t344, A3, H⟩ := bo_ H
  obtain ⟨t347, A4, H⟩ := bo_ H
  obtain rfl := Option.some.inj H
  go_enter Try.func103, Try.ntmps103
  go_wp2_with (first | ((with_reducible refine gate_callee (f := 109) rfl ?_); refine gl_ (some 7) Try.func109 #[.string a0, .string a1] rfl al_ ?_; (with_reducible refine (spec_l4Node.calls a0 a1 t344 _ A3.out).mono ?_); rintro e w5 ⟨v345, rfl, ho0, hb⟩; refine ⟨_, rfl, ?_⟩; have HO346 := q_ (Kd.R_lower ho0 (below_size (be_ HB.out))); replace HB := q_ (below_step (be_ HB.out) hb); (try clear hb); (try clear ho0); obtain ⟨Ao6, co6, eo6⟩ := Kd.R_slice HO346.out; subst eo6) | ((with_reducible refine gate_callee (f := 39) rfl ?_); refine gl_ (some 8) Try.func39 #[.slice Ao6 t344.length co6] rfl al_ ?_; (with_reducible refine (spec_Digest.calls k _ _ t344 t347 _ ?side1 ?side2 A4.out).mono ?_); (case side1 => exact kc_ (Kd.R_reads' HO346.out).2.2); (case side2 => exact (Kd.R_reads' HO346.out).2.1); rintro e w7 ⟨rfl, hb⟩; refine ⟨_, rfl, ?_⟩; replace HO346 := q_ (Kd.R_below (kr_ HO346.out) hb); replace HB := q_ (below_step (be_ HB.out) hb); (try clear hb)))
  go_ret
  exact ⟨rf_, be_ HB.out⟩

/-! ###  spec_l4Inner: function 79 -/
def spec_l4Inner.f : Nat → List (S26) → Option (ByteArray)
  | 0, _ => none
  | k + 1, l0 => if (l0.length : Int) = 0 then ((spec_Digest.f k (([] : List Int))).bind fun t351 => (some t351)) else (if (l0.length : Int) = 1 then (if 0 < (l0.length : Int) then ((spec_LeafOf.f k ((rd_T26 l0 0).f0) ((rd_T26 l0 0).f1)).bind fun t353 => (some t353)) else (none)) else ((spec_l4Half.f k (l0.length : Int)).bind fun t354 => (if 0 ≤ t354 then (if t354 ≤ (l0.length : Int) then ((spec_l4Inner.f k (l0.take (t354 : Int).toNat)).bind fun t359 => ((spec_l4Inner.f k (l0.drop (t354 : Int).toNat)).bind fun t364 => ((spec_NodeOf.f k t359 t364).bind fun t365 => (some t365)))) else (none)) else (none))))
def spec_l4Inner.T7 : Bool × List (List Nat × List Nat) := (true, [([], []), ([], []), ([0, 1], [0, 1]), ([2], [2]), ([], []), ([], []), ([4, 5], [4, 5]), ([6, 3], [6]), ([3, 7, 7], [3, 7]), ([8, 8, 0, 1, 2, 3, 4, 5, 6, 7, 8], [8])])
def spec_l4Inner.B7 : List Nat := [0, 0, 3, 7, 0, 0, 48, 127, 255, 511]
theorem spec_l4Inner.tab7 : rtab .any (opsOf Try.f79 7) = spec_l4Inner.T7 := by kernel_rfl
theorem spec_l4Inner.bits7 : waitsOk spec_l4Inner.T7.2 spec_l4Inner.B7 = true := by kernel_rfl
set_option maxHeartbeats 8000000 in
set_option maxRecDepth 100000 in
theorem spec_l4Inner.calls (k : Nat) : ∀ (A0 : Option Addr) (c0 : Nat) (l0 : List (S26)) (r : ByteArray) (w : World) (hr0 : Kd.C k26 w A0 l0.length l0) (hc0 : l0.length ≤ c0) (h : spec_l4Inner.f k l0 = some r),
  Calls Try.prog 79 #[.slice A0 l0.length c0] w fun e w' => e = .returned (.string r) ∧ Below w.heap.size w w' := by
  induction k using Nat.strongRecOn with
  | _ k ih =>
  intro A0 c0 l0 r w hr0 hc0 h
  cases k with
  | zero => exact absurd h (by simp [spec_l4Inner.f])
  | succ k =>
  simp only [spec_l4Inner.f] at h
  have hu26 := Try.underlying26
  have HR0 := Aside0.mk hr0
  have HC0 := Aside0.mk hc0
  clear hr0 hc0
  have HB := q_ (Below.refl w.heap.size w)
  have H : (if (l0.length : Int) = 0 then ((spec_Digest.f k (([] : List Int))).bind fun t351 => (some t351)) else (if (l0.length : Int) = 1 then (if 0 < (l0.length : Int) then ((spec_LeafOf.f k ((rd_T26 l0 0).f0) ((rd_T26 l0 0).f1)).bind fun t353 => (some t353)) else (none)) else ((spec_l4Half.f k (l0.length : Int)).bind fun t354 => (if 0 ≤ t354 then (if t354 ≤ (l0.length : Int) then ((spec_l4Inner.f k (l0.take (t354 : Int).toNat)).bind fun t359 => ((spec_l4Inner.f k (l0.drop (t354 : Int).toNat)).bind fun t364 => ((spec_NodeOf.f k t359 t364).bind fun t365 => (some t365)))) else (none)) else (none))))) = some r := h
  clear h
  by_cases c2 : (l0.length : Int) = 0
  · rw [if_pos c2] at H
    have c2b0 := beq_iff_eq.mpr c2
    have c2b1 := bne_eq_false_iff_eq.mpr c2
    clear c2
    obtain ⟨y348, hy348⟩ : ∃ y_ : List Int, y_ = (([] : List Int)) := ⟨_, rfl⟩
    replace H : ((spec_Digest.f k y348).bind fun t351 => (some t351)) = some r := ry_ hy348 H
    have Ny348 := Aside0.mk hy348
    clear hy348
    obtain ⟨t351, A3, H⟩ := bo_ H
    obtain rfl := Option.some.inj H
    go_enter Try.func79, Try.ntmps79
    go_wp2_with (first | ((with_reducible refine gate_dst (N := 8) rfl ?_); refine Kd.R_lit (Kd.int .u8) _ 5 ?hg (N := 8) ?hd (xs := ([] : List Int)) (inner := []) (ok := fun _ => True) (okp := fun _ => True) ?hr ?hp (fun _ hk => hk) trivial (Below.refl _ _) (Nat.le_refl _) (by simp) ?_; (case hd => rfl); (case hg => rfl); (case hr => first | (go_simp; done) | (go_simp; rfl)); (case hp => exact (Reps.none _ _)); intro v349 w4 ho5 hb hg_ hnew_; clear hg_ hnew_; (first | rw [← Ny348.out] at ho5 | (simp only [Int.reduceToNat] at ho5; rw [← Ny348.out] at ho5)); have HO350 := q_ (Kd.R_lower ho5 (below_size (be_ HB.out))); replace HB := q_ (below_step (be_ HB.out) hb); clear hb ho5; obtain ⟨Ao6, co6, eo6⟩ := Kd.R_slice HO350.out; subst eo6) | ((with_reducible refine gate_callee (f := 39) rfl ?_); refine gl_ (some 9) Try.func39 #[.slice Ao6 y348.length co6] rfl al_ ?_; (with_reducible refine (spec_Digest.calls k _ _ y348 t351 _ ?side1 ?side2 A3.out).mono ?_); (case side1 => exact kc_ (Kd.R_reads' HO350.out).2.2); (case side2 => exact (Kd.R_reads' HO350.out).2.1); rintro e w7 ⟨rfl, hb⟩; refine ⟨_, rfl, ?_⟩; replace HO350 := q_ (Kd.R_below (kr_ HO350.out) hb); replace HB := q_ (below_step (be_ HB.out) hb); (try clear hb)))
    go_ret
    exact ⟨rf_, be_ HB.out⟩
  · rw [if_neg c2] at H
    have c2b0 := beq_eq_false_iff_ne.mpr c2
    have c2b1 := bne_iff_ne.mpr c2
    have c2b2 : ¬ (l0 = []) := fun h_ => c2 (by rw [h_]; rfl)
    by_cases c8 : (l0.length : Int) = 1
    · rw [if_pos c8] at H
      have c8b0 := beq_iff_eq.mpr c8
      have c8b1 := bne_eq_false_iff_eq.mpr c8
      clear c8
      obtain ⟨c9, H⟩ := ip_ H
      have c9b0 : decide (0 < (l0.length : Int)) = true := decide_eq_true c9
      have c9b1 : decide (0 < l0.length) = true := decide_eq_true (by omega)
      clear c9
      obtain ⟨t353, A10, H⟩ := bo_ H
      obtain rfl := Option.some.inj H
      have p352 : 0 ≤ (0 : Int) := (by omega)
      have q352 : 0 < (l0.length : Int) := od_
      obtain ⟨ad352, e352, hx352_0, hx352_1⟩ := at_T26 HR0.out 0 p352 q352
      cases e352
      have qi352 : (0 < l0.length) = True := eq_true (by omega)
      (try rw [show ((0 : Int)).toNat = 0 from rfl] at hx352_0)
      (try rw [show 0 * 2 = 0 from rfl] at hx352_0)
      (try rw [Addr.add_zero'] at hx352_0)
      (try rw [show ((0 : Int)).toNat = 0 from rfl] at hx352_1)
      (try rw [show 0 * 2 = 0 from rfl] at hx352_1)
      (try rw [Addr.add_zero'] at hx352_1)
      replace p352 := eq_true p352
      replace q352 := eq_true q352
      go_enter Try.func79, Try.ntmps79
      go_wp2_with (first | ((with_reducible refine gate_callee (f := 102) rfl ?_); refine gl_ (some 15) Try.func102 #[.agg #[.string ((rd_T26 l0 0).f0), .string ((rd_T26 l0 0).f1)]] rfl al_ ?_; (with_reducible refine (spec_LeafOf.calls k ((rd_T26 l0 0).f0) ((rd_T26 l0 0).f1) t353 _ A10.out).mono ?_); rintro e w11 ⟨rfl, hb⟩; refine ⟨_, rfl, ?_⟩; replace HB := q_ (below_step (be_ HB.out) hb); (try clear hb)))
      go_ret
      exact ⟨rf_, be_ HB.out⟩
    · rw [if_neg c8] at H
      have c8b0 := beq_eq_false_iff_ne.mpr c8
      have c8b1 := bne_iff_ne.mpr c8
      obtain ⟨t354, A12, H⟩ := bo_ H
      obtain ⟨c13, H⟩ := ip_ H
      have c13b0 := eq_true c13
      have c13b1 : decide (0 ≤ t354) = true := decide_eq_true c13
      clear c13
      obtain ⟨c14, H⟩ := ip_ H
      have c14b0 := eq_true c14
      have c14b1 : decide (t354 ≤ (l0.length : Int)) = true := decide_eq_true c14
      clear c14
      obtain ⟨y355, hy355⟩ : ∃ y_ : List (S26), y_ = (l0.take (t354 : Int).toNat) := ⟨_, rfl⟩
      replace H : ((spec_l4Inner.f k y355).bind fun t359 => ((spec_l4Inner.f k (l0.drop (t354 : Int).toNat)).bind fun t364 => ((spec_NodeOf.f k t359 t364).bind fun t365 => (some t365)))) = some r := ry_ hy355 H
      have Ny355 := Aside0.mk hy355
      clear hy355
      obtain ⟨t359, A15, H⟩ := bo_ H
      have c16b0 := eq_true (od_ : 0 ≤ t354)
      have c17b0 := eq_true (od_ : t354 ≤ (l0.length : Int))
      obtain ⟨y360, hy360⟩ : ∃ y_ : List (S26), y_ = (l0.drop (t354 : Int).toNat) := ⟨_, rfl⟩
      replace H : ((spec_l4Inner.f k y360).bind fun t364 => ((spec_NodeOf.f k t359 t364).bind fun t365 => (some t365))) = some r := ry_ hy360 H
      have Ny360 := Aside0.mk hy360
      clear hy360
      obtain ⟨t364, A18, H⟩ := bo_ H
      obtain ⟨t365, A19, H⟩ := bo_ H
      obtain rfl := Option.some.inj H
      go_enter Try.func79, Try.ntmps79
      try go_wp2_with (first | ((with_reducible refine gate_callee (f := 78) rfl ?_); refine gl_ (some 18) Try.func78 #[.int .i64 (l0.length : Int)] rfl al_ ?_; (with_reducible refine (spec_l4Half.calls k (l0.length : Int) t354 _ A12.out).mono ?_); rintro e w' ⟨rfl, ⟨nd, rfl⟩⟩; refine ⟨_, rfl, ?_⟩))
      replace HB := q_ (below_drew1 (pw_below_drewN HB.out nd))
      have q21 : (t354 : Int) ≤ ((l0.length : Int) : Int) := od_
      obtain ⟨i021, hi021, _, hsz21, _⟩ := info_parts info26
      have hroom21 : l0.length ≤ c0 := HC0.out
      have hC21 : Kd.C k26 _ A0 l0.length l0 := HR0.out
      have hcut21 := cut_to (P := Try.prog) 24 26 .i64 Try.underlying24 hi021 A0 l0.length c0 t354 od_ q21 hroom21
      have hr21 := Kd.C_take (m := (t354 : Int).toNat) hC21 (by omega)
      have hy21 : y355.length = (t354 : Int).toNat := (by rw [Ny355.out, List.length_take]; omega)
      rw [← Ny355.out] at hr21
      rw [← hy21] at hcut21
      have HR358 := Aside0.mk hr21
      have HC358 := q_ (show y355.length ≤ c0 from by omega)
      clear hr21 hC21 hroom21 hi021 hsz21
      have KY21 := Aside0.mk hy21
      clear hy21
      replace q21 := eq_true q21
      have q22 : (t354 : Int) ≤ ((l0.length : Int) : Int) := od_
      obtain ⟨i022, hi022, _, hsz22, _⟩ := info_parts info26
      have hroom22 : l0.length ≤ c0 := HC0.out
      have hC22 : Kd.C k26 _ A0 l0.length l0 := HR0.out
      have q022 : (0 : Int) ≤ (t354 : Int) := od_
      have hcut22 := cut_from (P := Try.prog) 24 26 .i64 Try.underlying24 hi022 2 hsz22 A0 l0.length c0 t354 q022 q22
      have hr22 := Kd.C_drop (m := (t354 : Int).toNat) (c := c0) hC22 (by omega) hroom22
      obtain ⟨A22, hA22⟩ : ∃ A1, A1 = (if c0 = (t354 : Int).toNat then A0 else (A0 : Option Addr).map (·.add ((t354 : Int).toNat * 2))) := ⟨_, rfl⟩
      obtain ⟨c22, hc22⟩ : ∃ c1, c1 = c0 - (t354 : Int).toNat := ⟨_, rfl⟩
      have hy22 : y360.length = l0.length - (t354 : Int).toNat := (by rw [Ny360.out, List.length_drop] <;> omega)
      rw [show (l0).drop (t354 : Int).toNat = y360 from Ny360.out.symm] at hr22
      replace hr22 : Kd.C k26 _ A22 y360.length y360 := (by rw [hA22]; exact hr22)
      rw [← hy22, ← hA22, ← hc22] at hcut22
      have HR363 := Aside0.mk hr22
      have HC363 := q_ (show y360.length ≤ c22 from by rw [hy22, hc22]; exact Nat.sub_le_sub_right hroom22 _)
      clear hr22 hC22 hroom22 hi022 hsz22 hc22
      have KY22 := Aside0.mk hy22
      have KA22 := Aside0.mk hA22
      clear hy22 hA22
      replace q22 := eq_true q22
      refine start_ (n := 10) (S := fun w' => True) (ds := []) (bq_ 0 10) (by kernel_rfl) rfl rfl trivial (fun hHeld => ?_); refine with_tabW spec_l4Inner.tab7 spec_l4Inner.bits7 (fun HT_ HW_ => ?_)
      generalize (World.drewN w nd).drew = w20 at HB HR358 HR363 hHeld ⊢
      refine p_ 0 19 HT_ ?_; refine p_ 1 20 HT_ ?_; refine p_ 2 21 HT_ ?_; refine p_ 4 23 HT_ ?_; refine p_ 5 24 HT_ ?_; refine p_ 6 25 HT_ ?_
      refine oc_ 3 22 (bq_ 7 3) HT_ Try.func79 #[.slice A0 y355.length c0] ?_
      with_reducible refine (ih k (by omega) _ _ y355 t359 _ ?side1 ?side2 A15.out).mono ?_
      (case side1 => exact kc_ (Kd.C_below HR358.out HB.out))
      (case side2 => exact HC358.out)
      rintro e w23 ⟨rfl, hb⟩
      refine ⟨_, rfl, ?_⟩
      replace HB := q_ (below_step (be_ HB.out) hb)
      (try clear hb)
      (try clear hb2)
      (try clear hk)
      (try clear hi)
      refine ⟨trivial, fun hHeld => nm_ ?_⟩
      refine oc_ 7 26 (bq_ 8 2) HT_ Try.func79 #[.slice A22 y360.length c22] ?_
      with_reducible refine (ih k (by omega) _ _ y360 t364 _ ?side1 ?side2 A18.out).mono ?_
      (case side1 => exact kc_ (Kd.C_below HR363.out HB.out))
      (case side2 => exact HC363.out)
      rintro e w24 ⟨rfl, hb⟩
      refine ⟨_, rfl, ?_⟩
      replace HB := q_ (below_step (be_ HB.out) hb)
      (try clear hb)
      (try clear hb2)
      (try clear hk)
      (try clear hi)
      refine ⟨trivial, fun hHeld => nm_ ?_⟩
      refine oc_ 8 27 (bq_ 9 1) HT_ Try.func103 #[.string t359, .string t364] ?_
      with_reducible refine (spec_NodeOf.calls k t359 t364 t365 _ A19.out).mono ?_
      rintro e w25 ⟨rfl, hb⟩
      refine ⟨_, rfl, ?_⟩
      replace HB := q_ (below_step (be_ HB.out) hb)
      (try clear hb)
      (try clear hb2)
      (try clear hk)
      (try clear hi)
      refine ⟨trivial, fun hHeld => nm_ ?_⟩
      refine p_ 9 2 HT_ ?_
      refine done_ (done_of HT_.out (by kernel_rfl)) ?_
      try go_wp2
      go_ret
      exact ⟨rf_, be_ HB.out⟩

end Go.Proofs.Ythkaifddpjjmaaa.P
