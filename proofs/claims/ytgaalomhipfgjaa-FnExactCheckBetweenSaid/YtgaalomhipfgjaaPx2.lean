-- Written by wip/xp/xp.py over the kit's print; Lean checks it.
import Derived.Test.YtgaalomhipfgjaaPx0
import Derived.Test.YtgaalomhipfgjaaPx1
namespace Go.Proofs.Ytgaalomhipfgjaa.P
open Go.RowKit Go.Proofs.YtgaalomhipfgjaaW.PrintWords Go.Proofs.YtgaalomhipfgjaaW.PrintLast Go.Proofs.YtgaalomhipfgjaaW.PrintMore
attribute [local go_sem] max2_int min2_int max_two min_two max_three min_three max_four min_four   -- for this text's walks alone
set_option linter.unusedVariables false
set_option linter.unusedSimpArgs false

/-! ###  spec_l2Block: function 97 -/
mutual
def spec_l2Block.l0 : Nat → List Int → List Int → List Int → List Int → Int → Option (List Int)
  | 0, _, _, _, _, _ => none
  | k + 1, x0, x2, x7, x8, x9 => if x9 < 64 then (if 4 < (x8.length : Int) then ((spec_l2Turn.f (rd x8 4) 6).bind fun t159 => ((spec_l2Turn.f (rd x8 4) 11).bind fun t160 => ((spec_l2Turn.f (rd x8 4) 25).bind fun t161 => (if 5 < (x8.length : Int) then (if 6 < (x8.length : Int) then (if 7 < (x8.length : Int) then (if 0 ≤ x9 then (if x9 < (x2.length : Int) then (if x9 < (x7.length : Int) then (if 0 < (x8.length : Int) then ((spec_l2Turn.f (rd x8 0) 2).bind fun t168 => ((spec_l2Turn.f (rd x8 0) 13).bind fun t169 => ((spec_l2Turn.f (rd x8 0) 22).bind fun t170 => (if 1 < (x8.length : Int) then (if 2 < (x8.length : Int) then (if 3 < (x8.length : Int) then (spec_l2Block.l0 k x0 x2 x7 (([Go.bits .and .i64 (wrap64 ((wrap64 ((wrap64 ((wrap64 ((wrap64 ((rd x8 7) + (Go.bits .xor .i64 (Go.bits .xor .i64 t159 t160) t161))) + (Go.bits .xor .i64 (Go.bits .and .i64 (rd x8 4) (rd x8 5)) (Go.bits .and .i64 (Go.bits .xor .i64 4294967295 (rd x8 4)) (rd x8 6))))) + (rd x2 x9))) + (rd x7 x9))) + (wrap64 ((Go.bits .xor .i64 (Go.bits .xor .i64 t168 t169) t170) + (Go.bits .xor .i64 (Go.bits .xor .i64 (Go.bits .and .i64 (rd x8 0) (rd x8 1)) (Go.bits .and .i64 (rd x8 0) (rd x8 2))) (Go.bits .and .i64 (rd x8 1) (rd x8 2))))))) 4294967295, rd x8 0, rd x8 1, rd x8 2, Go.bits .and .i64 (wrap64 ((rd x8 3) + (wrap64 ((wrap64 ((wrap64 ((wrap64 ((rd x8 7) + (Go.bits .xor .i64 (Go.bits .xor .i64 t159 t160) t161))) + (Go.bits .xor .i64 (Go.bits .and .i64 (rd x8 4) (rd x8 5)) (Go.bits .and .i64 (Go.bits .xor .i64 4294967295 (rd x8 4)) (rd x8 6))))) + (rd x2 x9))) + (rd x7 x9))))) 4294967295, rd x8 4, rd x8 5, rd x8 6] : List Int)) (wrap64 (x9 + 1))) else (none)) else (none)) else (none))))) else (none)) else (none)) else (none)) else (none)) else (none)) else (none)) else (none))))) else (none)) else (spec_l2Block.l1 k x0 x8 0)
def spec_l2Block.l1 : Nat → List Int → List Int → Int → Option (List Int)
  | 0, _, _, _ => none
  | k + 1, x0, x8, x18 => if x18 < 8 then (if 0 ≤ x18 then (if x18 < (x8.length : Int) then (if x18 < (x0.length : Int) then (spec_l2Block.l1 k x0 (x8.set (x18 : Int).toNat (Go.bits .and .i64 (wrap64 ((rd x8 x18) + (rd x0 x18))) 4294967295)) (wrap64 (x18 + 1))) else (none)) else (none)) else (none)) else (some x8)
end
def spec_l2Block.f (k : Nat) (l0 : List Int) (l1 : List Int) (l2 : List Int) : Option (List Int) := (spec_l2Words.f k l1).bind fun t149 => ((some (([] : List Int) : List Int)).bind fun y152 => (if y152.length + l0.length < 17592186044416 then (spec_l2Block.l0 k l0 l2 t149 (y152 ++ l0) 0) else (none)))
def spec_l2Block.T8 : Bool × List (List Nat × List Nat) := (true, [([], []), ([], []), ([1], [1]), ([2], [2]), ([0, 3], [0, 3]), ([], []), ([5], [5]), ([], []), ([7], [7]), ([8], [8]), ([6, 9], [6, 9]), ([4, 10], [4, 10]), ([11, 0, 1, 2, 3, 4, 5, 6, 7, 8, 9, 10, 11], [11])])
def spec_l2Block.B8 : List Nat := [0, 0, 2, 6, 15, 0, 32, 0, 128, 384, 992, 2047, 4095]
theorem spec_l2Block.tab8 : rtab .any (opsOf Try.f97 8) = spec_l2Block.T8 := by kernel_rfl
theorem spec_l2Block.bits8 : waitsOk spec_l2Block.T8.2 spec_l2Block.B8 = true := by kernel_rfl
def spec_l2Block.T9 : Bool × List (List Nat × List Nat) := (true, [([], []), ([0], [0]), ([1], [1]), ([], []), ([2, 3], [2, 3]), ([], []), ([4, 5], [4, 5]), ([], []), ([], []), ([7, 8], [7, 8]), ([9], [9]), ([6, 10], [6, 10]), ([], []), ([], []), ([12, 13], [12, 13]), ([14], [14]), ([11, 15], [11, 15]), ([16, 0, 1, 2, 3, 4, 5, 6, 7, 8, 9, 10, 11, 12, 13, 14, 15, 16], [16])])
def spec_l2Block.B9 : List Nat := [0, 1, 3, 0, 15, 0, 63, 0, 0, 384, 896, 2047, 0, 0, 12288, 28672, 65535, 131071]
theorem spec_l2Block.tab9 : rtab .any (opsOf Try.f97 9) = spec_l2Block.T9 := by kernel_rfl
theorem spec_l2Block.bits9 : waitsOk spec_l2Block.T9.2 spec_l2Block.B9 = true := by kernel_rfl
def spec_l2Block.T12 : Bool × List (List Nat × List Nat) := (true, [([], []), ([], []), ([1], [1]), ([2], [2]), ([0, 3], [0, 3]), ([], []), ([], []), ([6], [6]), ([7], [7]), ([5, 8], [5, 8]), ([4, 9], [4, 9]), ([], []), ([11], [11]), ([12], [12]), ([], []), ([14], [14]), ([15], [15]), ([13, 16], [13, 16]), ([10, 17], [10, 17]), ([18, 0, 1, 2, 3, 4, 5, 6, 7, 8, 9, 10, 11, 12, 13, 14, 15, 16, 17, 18], [18])])
def spec_l2Block.B12 : List Nat := [0, 0, 2, 6, 15, 0, 0, 64, 192, 480, 1023, 0, 2048, 6144, 0, 16384, 49152, 129024, 262143, 524287]
theorem spec_l2Block.tab12 : rtab .any (opsOf Try.f97 12) = spec_l2Block.T12 := by kernel_rfl
theorem spec_l2Block.bits12 : waitsOk spec_l2Block.T12.2 spec_l2Block.B12 = true := by kernel_rfl
def spec_l2Block.T14 : Bool × List (List Nat × List Nat) := (true, [([], []), ([], []), ([0, 1], [0, 1]), ([2], [2]), ([], []), ([], []), ([5], [5]), ([6], [6]), ([], []), ([8], [8]), ([9], [9]), ([], []), ([11], [11]), ([12], [12]), ([], []), ([13, 14], [13, 14]), ([15], [15]), ([], []), ([], []), ([18], [18]), ([19], [19]), ([], []), ([21], [21]), ([22], [22]), ([3, 4, 7, 10, 16, 17, 20, 23], [3, 4, 7, 10, 16, 17, 20, 23]), ([24, 0, 1, 2, 3, 4, 5, 6, 7, 8, 9, 10, 11, 12, 13, 14, 15, 16, 17, 18, 19, 20, 21, 22, 23, 24], [5, 8, 11, 18, 21, 24])])
def spec_l2Block.B14 : List Nat := [0, 0, 3, 7, 0, 0, 32, 96, 0, 256, 768, 0, 2048, 6144, 0, 30720, 63488, 0, 0, 262144, 786432, 0, 2097152, 6291456, 16777215, 33554431]
theorem spec_l2Block.tab14 : rtab .any (opsOf Try.f97 14) = spec_l2Block.T14 := by kernel_rfl
theorem spec_l2Block.bits14 : waitsOk spec_l2Block.T14.2 spec_l2Block.B14 = true := by kernel_rfl
def spec_l2Block.T18 : Bool × List (List Nat × List Nat) := (true, [([], []), ([], []), ([], []), ([], []), ([2, 3], [2, 3]), ([4], [4]), ([], []), ([], []), ([6, 7], [6, 7]), ([8], [8]), ([5, 9], [5, 9]), ([10], [10]), ([0, 1, 0, 1, 2, 3, 4, 5, 6, 7, 8, 9, 10, 11], [0, 1]), ([12, 11, 0, 1, 2, 3, 4, 5, 6, 7, 8, 9, 10, 11], [11, 12])])
def spec_l2Block.B18 : List Nat := [0, 0, 0, 0, 12, 28, 0, 0, 192, 448, 1020, 2044, 4095, 8191]
theorem spec_l2Block.tab18 : rtab .any (opsOf Try.f97 18) = spec_l2Block.T18 := by kernel_rfl
theorem spec_l2Block.bits18 : waitsOk spec_l2Block.T18.2 spec_l2Block.B18 = true := by kernel_rfl
set_option maxHeartbeats 8000000 in
set_option maxRecDepth 100000 in
theorem spec_l2Block.calls (k : Nat) (A0 : Option Addr) (c0 : Nat) (l0 : List Int) (A1 : Option Addr) (c1 : Nat) (l1 : List Int) (A2 : Option Addr) (c2 : Nat) (l2 : List Int) (r : List Int) (w : World) (hr0 : Kd.C (Kd.int .i64) w A0 l0.length l0) (hc0 : l0.length ≤ c0) (hr1 : Kd.C (Kd.int .u8) w A1 l1.length l1) (hc1 : l1.length ≤ c1) (hr2 : Kd.C (Kd.int .i64) w A2 l2.length l2) (hc2 : l2.length ≤ c2) (h : spec_l2Block.f k l0 l1 l2 = some r) :
  Calls Try.prog 97 #[.slice A0 l0.length c0, .slice A1 l1.length c1, .slice A2 l2.length c2] w fun e w' => ∃ v0_ : Value, e = .returned (v0_) ∧ Kd.R (Kd.int .i64) 3 w' w.heap.size (fun _ => True) v0_ r ∧ Below w.heap.size w w' := by
  have HR0 := Aside0.mk hr0
  have HC0 := Aside0.mk hc0
  clear hr0 hc0
  have HR1 := Aside0.mk hr1
  have HC1 := Aside0.mk hc1
  clear hr1 hc1
  have HR2 := Aside0.mk hr2
  have HC2 := Aside0.mk hc2
  clear hr2 hc2
  have HB := q_ (Below.refl w.heap.size w)
  have H : ((spec_l2Words.f k l1).bind fun t149 => ((some (([] : List Int) : List Int)).bind fun y152 => (if y152.length + l0.length < 17592186044416 then (spec_l2Block.l0 k l0 l2 t149 (y152 ++ l0) 0) else (none)))) = some r := h
  clear h
  replace H := Option.bind_eq_some_iff.mp H
  obtain ⟨t149, A40, H⟩ := H
  have A4 := Aside0.mk A40
  clear A40
  obtain ⟨y152, hy152⟩ : ∃ y_ : List Int, y_ = (([] : List Int)) := ⟨_, rfl⟩
  replace H : (if y152.length + l0.length < 17592186044416 then (spec_l2Block.l0 k l0 l2 t149 (y152 ++ l0) 0) else (none)) = some r := ry_ hy152 H
  have Ny152 := Aside0.mk hy152
  clear hy152
  by_cases c5 : y152.length + l0.length < 17592186044416
  rotate_left
  · rw [if_neg c5] at H; exact absurd H (by simp)
  rw [if_pos c5] at H
  have LMc5 := Aside0.mk c5
  clear c5
  obtain ⟨y155, hy155⟩ : ∃ y_ : List Int, y_ = (y152 ++ l0) := ⟨_, rfl⟩
  replace H : (spec_l2Block.l0 k l0 l2 t149 y155 0) = some r := ry_ hy155 H
  have Ny155 := Aside0.mk hy155
  clear hy155
  have H' := Aside0.mk H
  clear H
  go_enter Try.func97, Try.ntmps97
  go_wp2_with (first | ((with_reducible refine gate_callee (f := 121) rfl ?_); refine gl_ (some 20) Try.func121 #[.slice A1 l1.length c1] rfl al_ ?_; (with_reducible refine (spec_l2Words.calls k _ _ l1 t149 _ ?side1 ?side2 A4.out).mono ?_); (case side1 => exact kc_ HR1.out); (case side2 => exact HC1.out); rintro e w6 ⟨v150, rfl, ho0, hb⟩; refine ⟨_, rfl, ?_⟩; have HO151 := q_ (Kd.R_lower ho0 (below_size (be_ HB.out))); replace HB := q_ (below_step (be_ HB.out) hb); (try clear hb); (try clear ho0)) | ((with_reducible refine gate_dst (N := 21) rfl ?_); refine Kd.R_lit (Kd.int .i64) _ 3 ?hg (N := 21) ?hd (xs := ([] : List Int)) (inner := []) (ok := fun _ => True) (okp := fun _ => True) ?hr ?hp (fun _ hk => hk) trivial (Below.refl _ _) (Nat.le_refl _) (by simp) ?_; (case hd => rfl); (case hg => rfl); (case hr => first | (go_simp; done) | (go_simp; rfl)); (case hp => exact (Reps.none _ _)); intro v153 w7 ho8 hb hg_ hnew_; clear hg_ hnew_; (first | rw [← Ny152.out] at ho8 | (simp only [Int.reduceToNat] at ho8; rw [← Ny152.out] at ho8)); have HO154 := q_ (Kd.R_lower (Kd.R_new' ho8 (Kd.R_lt (kr_ HO151.out))) (below_size (be_ HB.out))); replace HO151 := q_ (Kd.R_elder' (kr_ HO151.out) (Kd.R_base ho8) hb); replace HB := q_ (below_step (be_ HB.out) hb); clear hb ho8) | ((with_reducible refine gate_builtin (b := .append) (xs := #[.tmp 21, .tmp 22]) rfl ?_); at_builtin; refine Kd.R_append_rows (Kd.int .i64) (w0 := w) w.heap.size rfl (.tmp 21) (.tmp 22) 80 3 (.int .i64 0) 8 rfl Try.underlying80 info3 rfl (by decide) (by omega) v153 y152 l0 _ _ _ (fun k_ => some k_ ≠ (v150 : Value).ownBlock) (fun _ => False) rfl rfl ?aO ?aR (fun _ _ h => h) (fun _ h => h.elim) ?aF ?aB ?aS ?aL ?_; (case aR => exact kc_ (Kd.C_below HR0.out HB.out)); (case aB => exact (be_ HB.out)); (case aF => exact (fun k_ hk => Kd.fresh' (Kd.R_lt (kr_ HO151.out)) k_ hk)); (case aO => exact (by (with_reducible repeat (first | apply Kd.R_alloc | apply Kd.R_drewN | apply Kd.R_drew)); exact Kd.R_mono HO154.out (fun _ hk => hk.2))); (case aS => exact (below_size (be_ HB.out))); (case aL => have := LMc5.out; omega); intro v156 w9 ho hb hg hat; rw [← Ny155.out] at ho; have n0_ := q_ (Kd.R_after (ok := (fun _ => True)) (kr_ HO151.out) hg hat); have n1_ := q_ (hb); have n2_ := q_ (ho); clear HO151; clear HB; clear HO154; have HO151 := n0_; have HB := n1_; have HO157 := n2_; clear n0_ n1_ n2_; clear ho hb hg hat))
  go_loopg [8, 9] k (fun kq v8 v9 w' => ∃ (x8_1 : List Int) (x9_1 : Int), v9 = .int .i64 x9_1 ∧ Aside0 (spec_l2Block.l0 kq l0 l2 t149 x8_1 x9_1 = some r) ∧ Aside0 (kq ≤ k) ∧ Aside0 (Kd.R (Kd.int .i64) 3 w' w.heap.size (fun k_ => some k_ ≠ (v8 : Value).ownBlock) v150 t149) ∧ Aside0 (Kd.R (Kd.int .i64) 3 w' w.heap.size (fun k_ => some k_ ≠ (v150 : Value).ownBlock) v8 x8_1) ∧ Aside0 (Below w.heap.size w w'))
  case atStart => exact ⟨(y155), (0), rs_, H', ⟨Nat.le_refl _⟩, ⟨by (with_reducible repeat (first | apply Kd.R_alloc | apply Kd.R_drewN | apply Kd.R_drew)); exact Kd.R_mono HO151.out (fun _ hk => hk.2)⟩, ⟨by (with_reducible repeat (first | apply Kd.R_alloc | apply Kd.R_drewN | apply Kd.R_drew)); exact HO157.out⟩, ⟨be_ HB.out⟩⟩
  case round =>
   clear H'
   try clear c1
   try clear c2
   try clear p2
   try clear c5
   try clear c9
   obtain ⟨x8_1, x9_1, rfl, HA, HK1, HO_7, HO_8, HB⟩ := hrel
   cases gk with
   | zero => exact absurd HA.out (by simp [spec_l2Block.l0])
   | succ k1 =>
    have H := HA.out
    clear HA
    simp only [spec_l2Block.l0] at H
    by_cases c10 : x9_1 < 64
    · rw [if_pos c10] at H
      have c10b0 : decide (x9_1 < 64) = true := decide_eq_true c10
      clear c10
      by_cases c11 : 4 < (x8_1.length : Int)
      rotate_left
      · rw [if_neg c11] at H; exact absurd H (by simp)
      rw [if_pos c11] at H
      have c11b0 : decide (4 < (x8_1.length : Int)) = true := decide_eq_true c11
      have c11b1 : decide (4 < x8_1.length) = true := decide_eq_true (by omega)
      clear c11
      replace H := Option.bind_eq_some_iff.mp H
      obtain ⟨t159, A120, H⟩ := H
      have A12 := Aside0.mk A120
      clear A120
      replace H := Option.bind_eq_some_iff.mp H
      obtain ⟨t160, A130, H⟩ := H
      have A13 := Aside0.mk A130
      clear A130
      replace H := Option.bind_eq_some_iff.mp H
      obtain ⟨t161, A140, H⟩ := H
      have A14 := Aside0.mk A140
      clear A140
      by_cases c15 : 5 < (x8_1.length : Int)
      rotate_left
      · rw [if_neg c15] at H; exact absurd H (by simp)
      rw [if_pos c15] at H
      have c15b0 : decide (5 < (x8_1.length : Int)) = true := decide_eq_true c15
      have c15b1 : decide (5 < x8_1.length) = true := decide_eq_true (by omega)
      clear c15
      by_cases c16 : 6 < (x8_1.length : Int)
      rotate_left
      · rw [if_neg c16] at H; exact absurd H (by simp)
      rw [if_pos c16] at H
      have c16b0 : decide (6 < (x8_1.length : Int)) = true := decide_eq_true c16
      have c16b1 : decide (6 < x8_1.length) = true := decide_eq_true (by omega)
      clear c16
      by_cases c17 : 7 < (x8_1.length : Int)
      rotate_left
      · rw [if_neg c17] at H; exact absurd H (by simp)
      rw [if_pos c17] at H
      have c17b0 : decide (7 < (x8_1.length : Int)) = true := decide_eq_true c17
      have c17b1 : decide (7 < x8_1.length) = true := decide_eq_true (by omega)
      clear c17
      by_cases c18 : 0 ≤ x9_1
      rotate_left
      · rw [if_neg c18] at H; exact absurd H (by simp)
      rw [if_pos c18] at H
      have c18b0 : decide (0 ≤ x9_1) = true := decide_eq_true c18
      clear c18
      by_cases c19 : x9_1 < (l2.length : Int)
      rotate_left
      · rw [if_neg c19] at H; exact absurd H (by simp)
      rw [if_pos c19] at H
      have c19b0 : decide (x9_1 < (l2.length : Int)) = true := decide_eq_true c19
      clear c19
      by_cases c20 : x9_1 < (t149.length : Int)
      rotate_left
      · rw [if_neg c20] at H; exact absurd H (by simp)
      rw [if_pos c20] at H
      have c20b0 : decide (x9_1 < (t149.length : Int)) = true := decide_eq_true c20
      clear c20
      by_cases c21 : 0 < (x8_1.length : Int)
      rotate_left
      · rw [if_neg c21] at H; exact absurd H (by simp)
      rw [if_pos c21] at H
      have c21b0 : decide (0 < (x8_1.length : Int)) = true := decide_eq_true c21
      have c21b1 : decide (0 < x8_1.length) = true := decide_eq_true (by omega)
      clear c21
      replace H := Option.bind_eq_some_iff.mp H
      obtain ⟨t168, A220, H⟩ := H
      have A22 := Aside0.mk A220
      clear A220
      replace H := Option.bind_eq_some_iff.mp H
      obtain ⟨t169, A230, H⟩ := H
      have A23 := Aside0.mk A230
      clear A230
      replace H := Option.bind_eq_some_iff.mp H
      obtain ⟨t170, A240, H⟩ := H
      have A24 := Aside0.mk A240
      clear A240
      by_cases c25 : 1 < (x8_1.length : Int)
      rotate_left
      · rw [if_neg c25] at H; exact absurd H (by simp)
      rw [if_pos c25] at H
      have c25b0 : decide (1 < (x8_1.length : Int)) = true := decide_eq_true c25
      have c25b1 : decide (1 < x8_1.length) = true := decide_eq_true (by omega)
      clear c25
      by_cases c26 : 2 < (x8_1.length : Int)
      rotate_left
      · rw [if_neg c26] at H; exact absurd H (by simp)
      rw [if_pos c26] at H
      have c26b0 : decide (2 < (x8_1.length : Int)) = true := decide_eq_true c26
      have c26b1 : decide (2 < x8_1.length) = true := decide_eq_true (by omega)
      clear c26
      by_cases c27 : 3 < (x8_1.length : Int)
      rotate_left
      · rw [if_neg c27] at H; exact absurd H (by simp)
      rw [if_pos c27] at H
      have c27b0 : decide (3 < (x8_1.length : Int)) = true := decide_eq_true c27
      have c27b1 : decide (3 < x8_1.length) = true := decide_eq_true (by omega)
      clear c27
      obtain ⟨y180, hy180⟩ : ∃ y_ : List Int, y_ = (([Go.bits .and .i64 (wrap64 ((wrap64 ((wrap64 ((wrap64 ((wrap64 ((rd x8_1 7) + (Go.bits .xor .i64 (Go.bits .xor .i64 t159 t160) t161))) + (Go.bits .xor .i64 (Go.bits .and .i64 (rd x8_1 4) (rd x8_1 5)) (Go.bits .and .i64 (Go.bits .xor .i64 4294967295 (rd x8_1 4)) (rd x8_1 6))))) + (rd l2 x9_1))) + (rd t149 x9_1))) + (wrap64 ((Go.bits .xor .i64 (Go.bits .xor .i64 t168 t169) t170) + (Go.bits .xor .i64 (Go.bits .xor .i64 (Go.bits .and .i64 (rd x8_1 0) (rd x8_1 1)) (Go.bits .and .i64 (rd x8_1 0) (rd x8_1 2))) (Go.bits .and .i64 (rd x8_1 1) (rd x8_1 2))))))) 4294967295, rd x8_1 0, rd x8_1 1, rd x8_1 2, Go.bits .and .i64 (wrap64 ((rd x8_1 3) + (wrap64 ((wrap64 ((wrap64 ((wrap64 ((rd x8_1 7) + (Go.bits .xor .i64 (Go.bits .xor .i64 t159 t160) t161))) + (Go.bits .xor .i64 (Go.bits .and .i64 (rd x8_1 4) (rd x8_1 5)) (Go.bits .and .i64 (Go.bits .xor .i64 4294967295 (rd x8_1 4)) (rd x8_1 6))))) + (rd l2 x9_1))) + (rd t149 x9_1))))) 4294967295, rd x8_1 4, rd x8_1 5, rd x8_1 6] : List Int)) := ⟨_, rfl⟩
      replace H : (spec_l2Block.l0 k1 l0 l2 t149 y180 (wrap64 (x9_1 + 1))) = some r := ry_ hy180 H
      have Ny180 := Aside0.mk hy180
      clear hy180
      have H' := Aside0.mk H
      clear H
      obtain ⟨Ao28, co28, eo28⟩ := Kd.R_slice HO_8.out
      subst eo28
      have p158 : 0 ≤ (4 : Int) := (by omega)
      have q158 : 4 < (x8_1.length : Int) := od_
      obtain ⟨ad158, e158, hx158_0⟩ := Kd.at_int (Kd.R_reads' HO_8.out).2.2 4 p158 q158
      cases e158
      (try simp only [show (4 : Int).toNat = 4 from rfl, Nat.reduceMul, Nat.reduceEqDiff, Go.Addr.add, ↓reduceIte] at hx158_0)
      have qi158 : (4 < x8_1.length) = True := eq_true (by omega)
      (try rw [show ((4 : Int)).toNat = 4 from rfl] at hx158_0)
      replace p158 := eq_true p158
      replace q158 := eq_true q158
      try go_wp2_with (first | ((with_reducible refine gate_callee (f := 122) rfl ?_); refine gl_ (some 32) Try.func122 #[.int .i64 (rd x8_1 4), .int .i64 6] rfl al_ ?_; (with_reducible refine (spec_l2Turn.calls (rd x8_1 4) 6 t159 _ A12.out).mono ?_); rintro e w' ⟨rfl, ⟨nd, rfl⟩⟩; refine ⟨_, rfl, ?_⟩) | ((with_reducible refine gate_callee (f := 122) rfl ?_); refine gl_ (some 34) Try.func122 #[.int .i64 (rd x8_1 4), .int .i64 11] rfl al_ ?_; (with_reducible refine (spec_l2Turn.calls (rd x8_1 4) 11 t160 _ A13.out).mono ?_); rintro e w' ⟨rfl, ⟨nd, rfl⟩⟩; refine ⟨_, rfl, ?_⟩) | ((with_reducible refine gate_callee (f := 122) rfl ?_); refine gl_ (some 37) Try.func122 #[.int .i64 (rd x8_1 4), .int .i64 25] rfl al_ ?_; (with_reducible refine (spec_l2Turn.calls (rd x8_1 4) 25 t161 _ A14.out).mono ?_); rintro e w' ⟨rfl, ⟨nd, rfl⟩⟩; refine ⟨_, rfl, ?_⟩))
      (try (rw [drewN_self wr]; generalize hq_ : World.drewN wr _ = wr; have n0_ : Aside0 (Kd.R (Kd.int .i64) 3 wr w.heap.size (fun k_ => some k_ ≠ (.slice (some ad158) x8_1.length co28 : Value).ownBlock) v150 t149) := ⟨by rw [← hq_]; exact (kr_ HO_7.out)⟩; have n1_ : Aside0 (Kd.R (Kd.int .i64) 3 wr w.heap.size (fun k_ => some k_ ≠ (v150 : Value).ownBlock) (.slice (some ad158) x8_1.length co28) x8_1) := ⟨by rw [← hq_]; exact (kr_ HO_8.out)⟩; have n2_ : Aside0 (Below w.heap.size w wr) := ⟨by rw [← hq_]; exact (be_ HB.out)⟩; clear HO_7 HO_8 HB hq_; have HO_7 := n0_; have HO_8 := n1_; have HB := n2_; clear n0_ n1_ n2_))
      replace HO_7 := q_ (Kd.R_drew HO_7.out)
      replace HO_8 := q_ (Kd.R_drew HO_8.out)
      replace HB := q_ (below_drew1 HB.out)
      have p162 : 0 ≤ (5 : Int) := (by omega)
      have q162 : 5 < (x8_1.length : Int) := od_
      obtain ⟨ad162, e162, hx162_0⟩ := Kd.at_int (Kd.R_reads' HO_8.out).2.2 5 p162 q162
      obtain rfl : ad158 = ad162 := (by injection e162)
      (try simp only [show (5 : Int).toNat = 5 from rfl, Nat.reduceMul, Nat.reduceEqDiff, Go.Addr.add, ↓reduceIte] at hx162_0)
      have qi162 : (5 < x8_1.length) = True := eq_true (by omega)
      (try rw [show ((5 : Int)).toNat = 5 from rfl] at hx162_0)
      replace p162 := eq_true p162
      replace q162 := eq_true q162
      have p163 : 0 ≤ (6 : Int) := (by omega)
      have q163 : 6 < (x8_1.length : Int) := od_
      obtain ⟨ad163, e163, hx163_0⟩ := Kd.at_int (Kd.R_reads' HO_8.out).2.2 6 p163 q163
      obtain rfl : ad158 = ad163 := (by injection e163)
      (try simp only [show (6 : Int).toNat = 6 from rfl, Nat.reduceMul, Nat.reduceEqDiff, Go.Addr.add, ↓reduceIte] at hx163_0)
      have qi163 : (6 < x8_1.length) = True := eq_true (by omega)
      (try rw [show ((6 : Int)).toNat = 6 from rfl] at hx163_0)
      replace p163 := eq_true p163
      replace q163 := eq_true q163
      refine start_ (n := 13) (S := fun w' => w'.cell? ⟨ad158.block, ad158.off + 5, none⟩ = some (.int .i64 (rd x8_1 5)) ∧ w'.cell? ⟨ad158.block, ad158.off + 6, none⟩ = some (.int .i64 (rd x8_1 6))) (ds := []) (bq_ 0 13) (by kernel_rfl) rfl rfl ⟨hx162_0, hx163_0⟩ (fun hHeld => ?_); refine with_tabW spec_l2Block.tab8 spec_l2Block.bits8 (fun HT_ HW_ => ?_)
      generalize wr.drew = w29 at HO_7 HO_8 HB hx162_0 hx163_0 hHeld ⊢
      refine pu_ 0 (some 39) (bq_ 1 12) HT_ ?_
      refine pu_ 1 (some 40) (bq_ 2 11) HT_ ?_
      refine pu_ 2 (some 41) (bq_ 3 10) HT_ ?_
      refine pu_ 5 (some 44) (br_ [3, 2, 1, 7]) HT_ ?_
      refine pu_ 6 (some 45) (br_ [3, 2, 2, 6]) HT_ ?_
      refine pu_ 7 (some 46) (br_ [3, 2, 3, 5]) HT_ ?_
      refine pu_ 8 (some 47) (br_ [3, 2, 4, 4]) HT_ ?_
      refine take_ (i := 3) (N := some 42) (v := ?_) (a' := ?_) (br_ [4, 1, 4, 4]) rfl rfl (take_ofW HT_.out HW_.out (by kernel_rfl)) (fun _ _ _ h => h) (Or.inl ⟨by rfl, ?_⟩) hHeld ?_ ?_
      rotate_left
      · rintro w' ⟨s0, s1⟩
        go_simp
        with_reducible rfl
      rotate_left
      · simp only [Act.put, sa_, sz_, ss_, i64_w, i32_w]; rfl
      refine pu_ 4 (some 43) (bq_ 9 4) HT_ ?_
      refine take_ (i := 9) (N := some 48) (v := ?_) (a' := ?_) (bq_ 10 3) rfl rfl (take_ofW HT_.out HW_.out (by kernel_rfl)) (fun _ _ _ h => h) (Or.inl ⟨by rfl, ?_⟩) hHeld ?_ ?_
      rotate_left
      · rintro w' ⟨s0, s1⟩
        go_simp
        with_reducible rfl
      rotate_left
      · simp only [Act.put, sa_, sz_, ss_, i64_w, i32_w]; rfl
      refine pu_ 10 (some 49) (bq_ 11 2) HT_ ?_
      refine pu_ 11 (some 50) (bq_ 12 1) HT_ ?_
      refine pu_ 12 (some 12) (bq_ 13 0) HT_ ?_
      refine done_ (done_of HT_.out (by kernel_rfl)) ?_
      try go_wp2
      replace HO_7 := q_ (Kd.R_drew HO_7.out)
      replace HO_8 := q_ (Kd.R_drew HO_8.out)
      replace HB := q_ (below_drew1 HB.out)
      have p164 : 0 ≤ (7 : Int) := (by omega)
      have q164 : 7 < (x8_1.length : Int) := od_
      obtain ⟨ad164, e164, hx164_0⟩ := Kd.at_int (Kd.R_reads' HO_8.out).2.2 7 p164 q164
      obtain rfl : ad158 = ad164 := (by injection e164)
      (try simp only [show (7 : Int).toNat = 7 from rfl, Nat.reduceMul, Nat.reduceEqDiff, Go.Addr.add, ↓reduceIte] at hx164_0)
      have qi164 : (7 < x8_1.length) = True := eq_true (by omega)
      (try rw [show ((7 : Int)).toNat = 7 from rfl] at hx164_0)
      replace p164 := eq_true p164
      replace q164 := eq_true q164
      have p165 : 0 ≤ (x9_1 : Int) := od_
      have q165 : x9_1 < (l2.length : Int) := od_
      obtain ⟨ad165, e165, hx165_0⟩ := Kd.at_int HR2.out x9_1 p165 q165
      have hw165_0 := hx165_0
      cases e165
      replace hx165_0 := (HB.out.cell (World.block_lt_of_cell? w _ hx165_0)).trans hx165_0
      replace p165 := eq_true p165
      replace q165 := eq_true q165
      obtain ⟨Ao31, co31, eo31⟩ := Kd.R_slice HO_7.out
      (first | subst eo31 | (injection eo31 with f1_ f2_ f3_; have f4_ := f1_.symm; have f5_ := f3_.symm; clear f1_ f2_ f3_; subst f4_; subst f5_))
      have p166 : 0 ≤ (x9_1 : Int) := od_
      have q166 : x9_1 < (t149.length : Int) := od_
      obtain ⟨ad166, e166, hx166_0⟩ := Kd.at_int (Kd.R_reads' HO_7.out).2.2 x9_1 p166 q166
      cases e166
      replace p166 := eq_true p166
      replace q166 := eq_true q166
      refine start_ (n := 18) (S := fun w' => w'.cell? ⟨ad158.block, ad158.off + 7, none⟩ = some (.int .i64 (rd x8_1 7)) ∧ w'.cell? (ad165.add (x9_1).toNat) = some (.int .i64 (rd l2 x9_1)) ∧ w'.cell? (ad166.add (x9_1).toNat) = some (.int .i64 (rd t149 x9_1))) (ds := []) (bq_ 0 18) (by kernel_rfl) rfl rfl ⟨hx164_0, ((HB.out.cell (World.block_lt_of_cell? w _ hw165_0)).trans hw165_0), hx166_0⟩ (fun hHeld => ?_); refine with_tabW spec_l2Block.tab9 spec_l2Block.bits9 (fun HT_ HW_ => ?_)
      generalize w29.drew = w30 at HO_7 HO_8 HB hx164_0 hx165_0 hx166_0 hHeld ⊢
      refine pu_ 0 (some 51) (bq_ 1 17) HT_ ?_
      refine pu_ 1 (some 52) (bq_ 2 16) HT_ ?_
      refine pu_ 3 (some 54) (br_ [2, 1, 1, 14]) HT_ ?_
      refine pu_ 5 (some 56) (br_ [2, 1, 1, 1, 1, 12]) HT_ ?_
      refine pu_ 7 (some 58) (br_ [2, 1, 1, 1, 1, 1, 1, 10]) HT_ ?_
      refine pu_ 8 (some 59) (br_ [2, 1, 1, 1, 1, 1, 2, 9]) HT_ ?_
      refine pu_ 9 (some 60) (br_ [2, 1, 1, 1, 1, 1, 3, 8]) HT_ ?_
      refine pu_ 12 (some 63) (br_ [2, 1, 1, 1, 1, 1, 3, 2, 1, 5]) HT_ ?_
      refine pu_ 13 (some 64) (br_ [2, 1, 1, 1, 1, 1, 3, 2, 2, 4]) HT_ ?_
      refine pu_ 14 (some 65) (br_ [2, 1, 1, 1, 1, 1, 3, 2, 3, 3]) HT_ ?_
      refine take_ (i := 2) (N := some 53) (v := ?_) (a' := ?_) (br_ [4, 1, 1, 1, 3, 2, 3, 3]) rfl rfl (take_ofW HT_.out HW_.out (by kernel_rfl)) (fun _ _ _ h => h) (Or.inl ⟨by rfl, ?_⟩) hHeld ?_ ?_
      rotate_left
      · rintro w' ⟨s0, s1, s2⟩
        go_simp
        with_reducible rfl
      rotate_left
      · simp only [Act.put, sa_, sz_, ss_, i64_w, i32_w]; rfl
      refine pu_ 4 (some 55) (br_ [6, 1, 3, 2, 3, 3]) HT_ ?_
      refine pu_ 6 (some 57) (br_ [10, 2, 3, 3]) HT_ ?_
      refine take_ (i := 10) (N := some 61) (v := ?_) (a' := ?_) (br_ [11, 1, 3, 3]) rfl rfl (take_ofW HT_.out HW_.out (by kernel_rfl)) (fun _ _ _ h => h) (Or.inl ⟨by rfl, ?_⟩) hHeld ?_ ?_
      rotate_left
      · rintro w' ⟨s0, s1, s2⟩
        go_simp
        with_reducible rfl
      rotate_left
      · simp only [Act.put, sa_, sz_, ss_, i64_w, i32_w]; rfl
      refine pu_ 11 (some 62) (bq_ 15 3) HT_ ?_
      refine take_ (i := 15) (N := some 66) (v := ?_) (a' := ?_) (bq_ 16 2) rfl rfl (take_ofW HT_.out HW_.out (by kernel_rfl)) (fun _ _ _ h => h) (Or.inl ⟨by rfl, ?_⟩) hHeld ?_ ?_
      rotate_left
      · rintro w' ⟨s0, s1, s2⟩
        go_simp
        with_reducible rfl
      rotate_left
      · simp only [Act.put, sa_, sz_, ss_, i64_w, i32_w]; rfl
      refine pu_ 16 (some 67) (bq_ 17 1) HT_ ?_
      refine pu_ 17 (some 13) (bq_ 18 0) HT_ ?_
      refine done_ (done_of HT_.out (by kernel_rfl)) ?_
      have p167 : 0 ≤ (0 : Int) := (by omega)
      have q167 : 0 < (x8_1.length : Int) := od_
      obtain ⟨ad167, e167, hx167_0⟩ := Kd.at_int (Kd.R_reads' HO_8.out).2.2 0 p167 q167
      obtain rfl : ad158 = ad167 := (by injection e167)
      have qi167 : (0 < x8_1.length) = True := eq_true (by omega)
      (try rw [show ((0 : Int)).toNat = 0 from rfl] at hx167_0)
      (try rw [Addr.add_zero'] at hx167_0)
      replace p167 := eq_true p167
      replace q167 := eq_true q167
      try go_wp2_with (first | ((with_reducible refine gate_callee (f := 122) rfl ?_); refine gl_ (some 72) Try.func122 #[.int .i64 (rd x8_1 0), .int .i64 2] rfl al_ ?_; (with_reducible refine (spec_l2Turn.calls (rd x8_1 0) 2 t168 _ A22.out).mono ?_); rintro e w' ⟨rfl, ⟨nd, rfl⟩⟩; refine ⟨_, rfl, ?_⟩) | ((with_reducible refine gate_callee (f := 122) rfl ?_); refine gl_ (some 74) Try.func122 #[.int .i64 (rd x8_1 0), .int .i64 13] rfl al_ ?_; (with_reducible refine (spec_l2Turn.calls (rd x8_1 0) 13 t169 _ A23.out).mono ?_); rintro e w' ⟨rfl, ⟨nd, rfl⟩⟩; refine ⟨_, rfl, ?_⟩) | ((with_reducible refine gate_callee (f := 122) rfl ?_); refine gl_ (some 77) Try.func122 #[.int .i64 (rd x8_1 0), .int .i64 22] rfl al_ ?_; (with_reducible refine (spec_l2Turn.calls (rd x8_1 0) 22 t170 _ A24.out).mono ?_); rintro e w' ⟨rfl, ⟨nd, rfl⟩⟩; refine ⟨_, rfl, ?_⟩))
      (try (rw [drewN_self w30]; generalize hq_ : World.drewN w30 _ = w30; have n0_ : Aside0 (Kd.R (Kd.int .i64) 3 w30 w.heap.size (fun k_ => some k_ ≠ (.slice (some ad158) x8_1.length co28 : Value).ownBlock) (.slice (some ad166) t149.length co31) t149) := ⟨by rw [← hq_]; exact (kr_ HO_7.out)⟩; have n1_ : Aside0 (Kd.R (Kd.int .i64) 3 w30 w.heap.size (fun k_ => some k_ ≠ (.slice (some ad166) t149.length co31 : Value).ownBlock) (.slice (some ad158) x8_1.length co28) x8_1) := ⟨by rw [← hq_]; exact (kr_ HO_8.out)⟩; have n2_ : Aside0 (Below w.heap.size w w30) := ⟨by rw [← hq_]; exact (be_ HB.out)⟩; clear HO_7 HO_8 HB hq_; have HO_7 := n0_; have HO_8 := n1_; have HB := n2_; clear n0_ n1_ n2_))
      replace HO_7 := q_ (Kd.R_drew HO_7.out)
      replace HO_8 := q_ (Kd.R_drew HO_8.out)
      replace HB := q_ (below_drew1 HB.out)
      have p171 : 0 ≤ (1 : Int) := (by omega)
      have q171 : 1 < (x8_1.length : Int) := od_
      obtain ⟨ad171, e171, hx171_0⟩ := Kd.at_int (Kd.R_reads' HO_8.out).2.2 1 p171 q171
      obtain rfl : ad158 = ad171 := (by injection e171)
      (try simp only [show (1 : Int).toNat = 1 from rfl, Nat.reduceMul, Nat.reduceEqDiff, Go.Addr.add, ↓reduceIte] at hx171_0)
      have qi171 : (1 < x8_1.length) = True := eq_true (by omega)
      (try rw [show ((1 : Int)).toNat = 1 from rfl] at hx171_0)
      replace p171 := eq_true p171
      replace q171 := eq_true q171
      have p172 : 0 ≤ (2 : Int) := (by omega)
      have q172 : 2 < (x8_1.length : Int) := od_
      obtain ⟨ad172, e172, hx172_0⟩ := Kd.at_int (Kd.R_reads' HO_8.out).2.2 2 p172 q172
      obtain rfl : ad158 = ad172 := (by injection e172)
      (try simp only [show (2 : Int).toNat = 2 from rfl, Nat.reduceMul, Nat.reduceEqDiff, Go.Addr.add, ↓reduceIte] at hx172_0)
      have qi172 : (2 < x8_1.length) = True := eq_true (by omega)
      (try rw [show ((2 : Int)).toNat = 2 from rfl] at hx172_0)
      replace p172 := eq_true p172
      replace q172 := eq_true q172
      have p173 : 0 ≤ (1 : Int) := (by omega)
      have q173 : 1 < (x8_1.length : Int) := od_
      obtain ⟨ad173, e173, hx173_0⟩ := Kd.at_int (Kd.R_reads' HO_8.out).2.2 1 p173 q173
      obtain rfl : ad158 = ad173 := (by injection e173)
      (try simp only [show (1 : Int).toNat = 1 from rfl, Nat.reduceMul, Nat.reduceEqDiff, Go.Addr.add, ↓reduceIte] at hx173_0)
      have qi173 : (1 < x8_1.length) = True := eq_true (by omega)
      (try rw [show ((1 : Int)).toNat = 1 from rfl] at hx173_0)
      replace p173 := eq_true p173
      replace q173 := eq_true q173
      have p174 : 0 ≤ (2 : Int) := (by omega)
      have q174 : 2 < (x8_1.length : Int) := od_
      obtain ⟨ad174, e174, hx174_0⟩ := Kd.at_int (Kd.R_reads' HO_8.out).2.2 2 p174 q174
      obtain rfl : ad158 = ad174 := (by injection e174)
      (try simp only [show (2 : Int).toNat = 2 from rfl, Nat.reduceMul, Nat.reduceEqDiff, Go.Addr.add, ↓reduceIte] at hx174_0)
      have qi174 : (2 < x8_1.length) = True := eq_true (by omega)
      (try rw [show ((2 : Int)).toNat = 2 from rfl] at hx174_0)
      replace p174 := eq_true p174
      replace q174 := eq_true q174
      refine start_ (n := 20) (S := fun w' => w'.cell? ⟨ad158.block, ad158.off + 1, none⟩ = some (.int .i64 (rd x8_1 1)) ∧ w'.cell? ⟨ad158.block, ad158.off + 2, none⟩ = some (.int .i64 (rd x8_1 2)) ∧ w'.cell? ⟨ad158.block, ad158.off + 1, none⟩ = some (.int .i64 (rd x8_1 1)) ∧ w'.cell? ⟨ad158.block, ad158.off + 2, none⟩ = some (.int .i64 (rd x8_1 2))) (ds := []) (bq_ 0 20) (by kernel_rfl) rfl rfl ⟨hx171_0, hx172_0, hx173_0, hx174_0⟩ (fun hHeld => ?_); refine with_tabW spec_l2Block.tab12 spec_l2Block.bits12 (fun HT_ HW_ => ?_)
      generalize w30.drew = w32 at HO_7 HO_8 HB hx171_0 hx172_0 hx173_0 hx174_0 hHeld ⊢
      refine pu_ 0 (some 79) (bq_ 1 19) HT_ ?_
      refine pu_ 1 (some 80) (bq_ 2 18) HT_ ?_
      refine pu_ 2 (some 81) (bq_ 3 17) HT_ ?_
      refine pu_ 5 (some 84) (br_ [3, 2, 1, 14]) HT_ ?_
      refine pu_ 6 (some 85) (br_ [3, 2, 2, 13]) HT_ ?_
      refine pu_ 7 (some 86) (br_ [3, 2, 3, 12]) HT_ ?_
      refine pu_ 11 (some 90) (br_ [3, 2, 3, 3, 1, 8]) HT_ ?_
      refine pu_ 12 (some 91) (br_ [3, 2, 3, 3, 2, 7]) HT_ ?_
      refine pu_ 14 (some 93) (br_ [3, 2, 3, 3, 2, 1, 1, 5]) HT_ ?_
      refine pu_ 15 (some 94) (br_ [3, 2, 3, 3, 2, 1, 2, 4]) HT_ ?_
      refine take_ (i := 3) (N := some 82) (v := ?_) (a' := ?_) (br_ [4, 1, 3, 3, 2, 1, 2, 4]) rfl rfl (take_ofW HT_.out HW_.out (by kernel_rfl)) (fun _ _ _ h => h) (Or.inl ⟨by rfl, ?_⟩) hHeld ?_ ?_
      rotate_left
      · rintro w' ⟨s0, s1, s2, s3⟩
        go_simp
        with_reducible rfl
      rotate_left
      · simp only [Act.put, sa_, sz_, ss_, i64_w, i32_w]; rfl
      refine pu_ 4 (some 83) (br_ [8, 3, 2, 1, 2, 4]) HT_ ?_
      refine take_ (i := 8) (N := some 87) (v := ?_) (a' := ?_) (br_ [9, 2, 2, 1, 2, 4]) rfl rfl (take_ofW HT_.out HW_.out (by kernel_rfl)) (fun _ _ _ h => h) (Or.inl ⟨by rfl, ?_⟩) hHeld ?_ ?_
      rotate_left
      · rintro w' ⟨s0, s1, s2, s3⟩
        go_simp
        with_reducible rfl
      rotate_left
      · simp only [Act.put, sa_, sz_, ss_, i64_w, i32_w]; rfl
      refine pu_ 9 (some 88) (br_ [10, 1, 2, 1, 2, 4]) HT_ ?_
      refine pu_ 10 (some 89) (br_ [13, 1, 2, 4]) HT_ ?_
      refine take_ (i := 13) (N := some 92) (v := ?_) (a' := ?_) (bq_ 16 4) rfl rfl (take_ofW HT_.out HW_.out (by kernel_rfl)) (fun _ _ _ h => h) (Or.inl ⟨by rfl, ?_⟩) hHeld ?_ ?_
      rotate_left
      · rintro w' ⟨s0, s1, s2, s3⟩
        go_simp
        with_reducible rfl
      rotate_left
      · simp only [Act.put, sa_, sz_, ss_, i64_w, i32_w]; rfl
      refine take_ (i := 16) (N := some 95) (v := ?_) (a' := ?_) (bq_ 17 3) rfl rfl (take_ofW HT_.out HW_.out (by kernel_rfl)) (fun _ _ _ h => h) (Or.inl ⟨by rfl, ?_⟩) hHeld ?_ ?_
      rotate_left
      · rintro w' ⟨s0, s1, s2, s3⟩
        go_simp
        with_reducible rfl
      rotate_left
      · simp only [Act.put, sa_, sz_, ss_, i64_w, i32_w]; rfl
      refine pu_ 17 (some 96) (bq_ 18 2) HT_ ?_
      refine pu_ 18 (some 97) (bq_ 19 1) HT_ ?_
      refine pu_ 19 (some 16) (bq_ 20 0) HT_ ?_
      refine done_ (done_of HT_.out (by kernel_rfl)) ?_
      try go_wp2
      replace HO_7 := q_ (Kd.R_drew HO_7.out)
      replace HO_8 := q_ (Kd.R_drew HO_8.out)
      replace HB := q_ (below_drew1 HB.out)
      have p175 : 0 ≤ (1 : Int) := (by omega)
      have q175 : 1 < (x8_1.length : Int) := od_
      obtain ⟨ad175, e175, hx175_0⟩ := Kd.at_int (Kd.R_reads' HO_8.out).2.2 1 p175 q175
      obtain rfl : ad158 = ad175 := (by injection e175)
      (try simp only [show (1 : Int).toNat = 1 from rfl, Nat.reduceMul, Nat.reduceEqDiff, Go.Addr.add, ↓reduceIte] at hx175_0)
      have qi175 : (1 < x8_1.length) = True := eq_true (by omega)
      (try rw [show ((1 : Int)).toNat = 1 from rfl] at hx175_0)
      replace p175 := eq_true p175
      replace q175 := eq_true q175
      have p176 : 0 ≤ (2 : Int) := (by omega)
      have q176 : 2 < (x8_1.length : Int) := od_
      obtain ⟨ad176, e176, hx176_0⟩ := Kd.at_int (Kd.R_reads' HO_8.out).2.2 2 p176 q176
      obtain rfl : ad158 = ad176 := (by injection e176)
      (try simp only [show (2 : Int).toNat = 2 from rfl, Nat.reduceMul, Nat.reduceEqDiff, Go.Addr.add, ↓reduceIte] at hx176_0)
      have qi176 : (2 < x8_1.length) = True := eq_true (by omega)
      (try rw [show ((2 : Int)).toNat = 2 from rfl] at hx176_0)
      replace p176 := eq_true p176
      replace q176 := eq_true q176
      have p177 : 0 ≤ (3 : Int) := (by omega)
      have q177 : 3 < (x8_1.length : Int) := od_
      obtain ⟨ad177, e177, hx177_0⟩ := Kd.at_int (Kd.R_reads' HO_8.out).2.2 3 p177 q177
      obtain rfl : ad158 = ad177 := (by injection e177)
      (try simp only [show (3 : Int).toNat = 3 from rfl, Nat.reduceMul, Nat.reduceEqDiff, Go.Addr.add, ↓reduceIte] at hx177_0)
      have qi177 : (3 < x8_1.length) = True := eq_true (by omega)
      (try rw [show ((3 : Int)).toNat = 3 from rfl] at hx177_0)
      replace p177 := eq_true p177
      replace q177 := eq_true q177
      have p178 : 0 ≤ (5 : Int) := (by omega)
      have q178 : 5 < (x8_1.length : Int) := od_
      obtain ⟨ad178, e178, hx178_0⟩ := Kd.at_int (Kd.R_reads' HO_8.out).2.2 5 p178 q178
      obtain rfl : ad158 = ad178 := (by injection e178)
      (try simp only [show (5 : Int).toNat = 5 from rfl, Nat.reduceMul, Nat.reduceEqDiff, Go.Addr.add, ↓reduceIte] at hx178_0)
      have qi178 : (5 < x8_1.length) = True := eq_true (by omega)
      (try rw [show ((5 : Int)).toNat = 5 from rfl] at hx178_0)
      replace p178 := eq_true p178
      replace q178 := eq_true q178
      have p179 : 0 ≤ (6 : Int) := (by omega)
      have q179 : 6 < (x8_1.length : Int) := od_
      obtain ⟨ad179, e179, hx179_0⟩ := Kd.at_int (Kd.R_reads' HO_8.out).2.2 6 p179 q179
      obtain rfl : ad158 = ad179 := (by injection e179)
      (try simp only [show (6 : Int).toNat = 6 from rfl, Nat.reduceMul, Nat.reduceEqDiff, Go.Addr.add, ↓reduceIte] at hx179_0)
      have qi179 : (6 < x8_1.length) = True := eq_true (by omega)
      (try rw [show ((6 : Int)).toNat = 6 from rfl] at hx179_0)
      replace p179 := eq_true p179
      replace q179 := eq_true q179
      refine start_ (n := 26) (S := fun w' => w'.cell? ⟨ad158.block, ad158.off + 1, none⟩ = some (.int .i64 (rd x8_1 1)) ∧ w'.cell? ⟨ad158.block, ad158.off + 2, none⟩ = some (.int .i64 (rd x8_1 2)) ∧ w'.cell? ⟨ad158.block, ad158.off + 3, none⟩ = some (.int .i64 (rd x8_1 3)) ∧ w'.cell? ⟨ad158.block, ad158.off + 5, none⟩ = some (.int .i64 (rd x8_1 5)) ∧ w'.cell? ⟨ad158.block, ad158.off + 6, none⟩ = some (.int .i64 (rd x8_1 6))) (ds := []) (bq_ 0 26) (by kernel_rfl) rfl rfl ⟨hx175_0, hx176_0, hx177_0, hx178_0, hx179_0⟩ (fun hHeld => ?_); refine with_tabW spec_l2Block.tab14 spec_l2Block.bits14 (fun HT_ HW_ => ?_)
      generalize w32.drew = w33 at HO_7 HO_8 HB hx175_0 hx176_0 hx177_0 hx178_0 hx179_0 hHeld ⊢
      refine pu_ 0 (some 101) (bq_ 1 25) HT_ ?_
      refine pu_ 1 (some 102) (bq_ 2 24) HT_ ?_
      refine pu_ 2 (some 103) (bq_ 3 23) HT_ ?_
      refine pu_ 3 (some 104) (bq_ 4 22) HT_ ?_
      refine pu_ 4 (some 105) (bq_ 5 21) HT_ ?_
      refine pu_ 5 (some 106) (bq_ 6 20) HT_ ?_
      refine pu_ 6 (some 107) (bq_ 7 19) HT_ ?_
      refine pu_ 8 (some 109) (br_ [7, 1, 1, 17]) HT_ ?_
      refine pu_ 9 (some 110) (br_ [7, 1, 2, 16]) HT_ ?_
      refine pu_ 11 (some 112) (br_ [7, 1, 2, 1, 1, 14]) HT_ ?_
      refine pu_ 12 (some 113) (br_ [7, 1, 2, 1, 2, 13]) HT_ ?_
      refine pu_ 14 (some 115) (br_ [7, 1, 2, 1, 2, 1, 1, 11]) HT_ ?_
      refine pu_ 17 (some 118) (br_ [7, 1, 2, 1, 2, 1, 1, 2, 1, 8]) HT_ ?_
      refine pu_ 18 (some 119) (br_ [7, 1, 2, 1, 2, 1, 1, 2, 2, 7]) HT_ ?_
      refine pu_ 19 (some 120) (br_ [7, 1, 2, 1, 2, 1, 1, 2, 3, 6]) HT_ ?_
      refine pu_ 21 (some 122) (br_ [7, 1, 2, 1, 2, 1, 1, 2, 3, 1, 1, 4]) HT_ ?_
      refine pu_ 22 (some 123) (br_ [7, 1, 2, 1, 2, 1, 1, 2, 3, 1, 2, 3]) HT_ ?_
      refine take_ (i := 7) (N := some 108) (v := ?_) (a' := ?_) (br_ [10, 1, 2, 1, 1, 2, 3, 1, 2, 3]) rfl rfl (take_ofW HT_.out HW_.out (by kernel_rfl)) (fun _ _ _ h => h) (Or.inl ⟨by rfl, ?_⟩) hHeld ?_ ?_
      rotate_left
      · rintro w' ⟨s0, s1, s2, s3, s4⟩
        go_simp
        with_reducible rfl
      rotate_left
      · simp only [Act.put, sa_, sz_, ss_, i64_w, i32_w]; rfl
      refine take_ (i := 10) (N := some 111) (v := ?_) (a' := ?_) (br_ [13, 1, 1, 2, 3, 1, 2, 3]) rfl rfl (take_ofW HT_.out HW_.out (by kernel_rfl)) (fun _ _ _ h => h) (Or.inl ⟨by rfl, ?_⟩) hHeld ?_ ?_
      rotate_left
      · rintro w' ⟨s0, s1, s2, s3, s4⟩
        go_simp
        with_reducible rfl
      rotate_left
      · simp only [Act.put, sa_, sz_, ss_, i64_w, i32_w]; rfl
      refine take_ (i := 13) (N := some 114) (v := ?_) (a' := ?_) (br_ [15, 2, 3, 1, 2, 3]) rfl rfl (take_ofW HT_.out HW_.out (by kernel_rfl)) (fun _ _ _ h => h) (Or.inl ⟨by rfl, ?_⟩) hHeld ?_ ?_
      rotate_left
      · rintro w' ⟨s0, s1, s2, s3, s4⟩
        go_simp
        with_reducible rfl
      rotate_left
      · simp only [Act.put, sa_, sz_, ss_, i64_w, i32_w]; rfl
      refine pu_ 15 (some 116) (br_ [16, 1, 3, 1, 2, 3]) HT_ ?_
      refine pu_ 16 (some 117) (br_ [20, 1, 2, 3]) HT_ ?_
      refine take_ (i := 20) (N := some 121) (v := ?_) (a' := ?_) (bq_ 23 3) rfl rfl (take_ofW HT_.out HW_.out (by kernel_rfl)) (fun _ _ _ h => h) (Or.inl ⟨by rfl, ?_⟩) hHeld ?_ ?_
      rotate_left
      · rintro w' ⟨s0, s1, s2, s3, s4⟩
        go_simp
        with_reducible rfl
      rotate_left
      · simp only [Act.put, sa_, sz_, ss_, i64_w, i32_w]; rfl
      refine take_ (i := 23) (N := some 124) (v := ?_) (a' := ?_) (bq_ 24 2) rfl rfl (take_ofW HT_.out HW_.out (by kernel_rfl)) (fun _ _ _ h => h) (Or.inl ⟨by rfl, ?_⟩) hHeld ?_ ?_
      rotate_left
      · rintro w' ⟨s0, s1, s2, s3, s4⟩
        go_simp
        with_reducible rfl
      rotate_left
      · simp only [Act.put, sa_, sz_, ss_, i64_w, i32_w]; rfl
      refine on_ 24 (some 125) (bq_ 25 1) HT_ (fun K hK => ?_)
      refine Kd.R_lit_step (Kd.int .i64) _ 3 ?hg (N := 125) ?hd (xs := ([Go.bits .and .i64 (wrap64 ((wrap64 ((wrap64 ((wrap64 ((wrap64 ((rd x8_1 7) + (Go.bits .xor .i64 (Go.bits .xor .i64 t159 t160) t161))) + (Go.bits .xor .i64 (Go.bits .and .i64 (rd x8_1 4) (rd x8_1 5)) (Go.bits .and .i64 (Go.bits .xor .i64 4294967295 (rd x8_1 4)) (rd x8_1 6))))) + (rd l2 x9_1))) + (rd t149 x9_1))) + (wrap64 ((Go.bits .xor .i64 (Go.bits .xor .i64 t168 t169) t170) + (Go.bits .xor .i64 (Go.bits .xor .i64 (Go.bits .and .i64 (rd x8_1 0) (rd x8_1 1)) (Go.bits .and .i64 (rd x8_1 0) (rd x8_1 2))) (Go.bits .and .i64 (rd x8_1 1) (rd x8_1 2))))))) 4294967295, rd x8_1 0, rd x8_1 1, rd x8_1 2, Go.bits .and .i64 (wrap64 ((rd x8_1 3) + (wrap64 ((wrap64 ((wrap64 ((wrap64 ((rd x8_1 7) + (Go.bits .xor .i64 (Go.bits .xor .i64 t159 t160) t161))) + (Go.bits .xor .i64 (Go.bits .and .i64 (rd x8_1 4) (rd x8_1 5)) (Go.bits .and .i64 (Go.bits .xor .i64 4294967295 (rd x8_1 4)) (rd x8_1 6))))) + (rd l2 x9_1))) + (rd t149 x9_1))))) 4294967295, rd x8_1 4, rd x8_1 5, rd x8_1 6] : List Int)) (inner := [.int .i64 (Go.bits .and .i64 (wrap64 ((wrap64 ((wrap64 ((wrap64 ((wrap64 ((rd x8_1 7) + (Go.bits .xor .i64 (Go.bits .xor .i64 t159 t160) t161))) + (Go.bits .xor .i64 (Go.bits .and .i64 (rd x8_1 4) (rd x8_1 5)) (Go.bits .and .i64 (Go.bits .xor .i64 4294967295 (rd x8_1 4)) (rd x8_1 6))))) + (rd l2 x9_1))) + (rd t149 x9_1))) + (wrap64 ((Go.bits .xor .i64 (Go.bits .xor .i64 t168 t169) t170) + (Go.bits .xor .i64 (Go.bits .xor .i64 (Go.bits .and .i64 (rd x8_1 0) (rd x8_1 1)) (Go.bits .and .i64 (rd x8_1 0) (rd x8_1 2))) (Go.bits .and .i64 (rd x8_1 1) (rd x8_1 2))))))) 4294967295), .int .i64 (rd x8_1 0), .int .i64 (rd x8_1 1), .int .i64 (rd x8_1 2), .int .i64 (Go.bits .and .i64 (wrap64 ((rd x8_1 3) + (wrap64 ((wrap64 ((wrap64 ((wrap64 ((rd x8_1 7) + (Go.bits .xor .i64 (Go.bits .xor .i64 t159 t160) t161))) + (Go.bits .xor .i64 (Go.bits .and .i64 (rd x8_1 4) (rd x8_1 5)) (Go.bits .and .i64 (Go.bits .xor .i64 4294967295 (rd x8_1 4)) (rd x8_1 6))))) + (rd l2 x9_1))) + (rd t149 x9_1))))) 4294967295), .int .i64 (rd x8_1 4), .int .i64 (rd x8_1 5), .int .i64 (rd x8_1 6)]) (ok := fun _ => True) (okp := fun _ => True) ?hr ?hp (fun _ hk => hk) trivial (Below.refl _ _) (Nat.le_refl _) (by simp) ?_; (case hd => rfl); (case hg => rfl); (case hr => first | (go_simp; done) | (go_simp; rfl)); (case hp => exact (Reps.one (show Kd.M (Kd.int .i64) _ _ _ (Go.bits .and .i64 (wrap64 ((wrap64 ((wrap64 ((wrap64 ((wrap64 ((rd x8_1 7) + (Go.bits .xor .i64 (Go.bits .xor .i64 t159 t160) t161))) + (Go.bits .xor .i64 (Go.bits .and .i64 (rd x8_1 4) (rd x8_1 5)) (Go.bits .and .i64 (Go.bits .xor .i64 4294967295 (rd x8_1 4)) (rd x8_1 6))))) + (rd l2 x9_1))) + (rd t149 x9_1))) + (wrap64 ((Go.bits .xor .i64 (Go.bits .xor .i64 t168 t169) t170) + (Go.bits .xor .i64 (Go.bits .xor .i64 (Go.bits .and .i64 (rd x8_1 0) (rd x8_1 1)) (Go.bits .and .i64 (rd x8_1 0) (rd x8_1 2))) (Go.bits .and .i64 (rd x8_1 1) (rd x8_1 2))))))) 4294967295) [.int .i64 (Go.bits .and .i64 (wrap64 ((wrap64 ((wrap64 ((wrap64 ((wrap64 ((rd x8_1 7) + (Go.bits .xor .i64 (Go.bits .xor .i64 t159 t160) t161))) + (Go.bits .xor .i64 (Go.bits .and .i64 (rd x8_1 4) (rd x8_1 5)) (Go.bits .and .i64 (Go.bits .xor .i64 4294967295 (rd x8_1 4)) (rd x8_1 6))))) + (rd l2 x9_1))) + (rd t149 x9_1))) + (wrap64 ((Go.bits .xor .i64 (Go.bits .xor .i64 t168 t169) t170) + (Go.bits .xor .i64 (Go.bits .xor .i64 (Go.bits .and .i64 (rd x8_1 0) (rd x8_1 1)) (Go.bits .and .i64 (rd x8_1 0) (rd x8_1 2))) (Go.bits .and .i64 (rd x8_1 1) (rd x8_1 2))))))) 4294967295)] from rfl) (Reps.one (show Kd.M (Kd.int .i64) _ _ _ (rd x8_1 0) [.int .i64 (rd x8_1 0)] from rfl) (Reps.one (show Kd.M (Kd.int .i64) _ _ _ (rd x8_1 1) [.int .i64 (rd x8_1 1)] from rfl) (Reps.one (show Kd.M (Kd.int .i64) _ _ _ (rd x8_1 2) [.int .i64 (rd x8_1 2)] from rfl) (Reps.one (show Kd.M (Kd.int .i64) _ _ _ (Go.bits .and .i64 (wrap64 ((rd x8_1 3) + (wrap64 ((wrap64 ((wrap64 ((wrap64 ((rd x8_1 7) + (Go.bits .xor .i64 (Go.bits .xor .i64 t159 t160) t161))) + (Go.bits .xor .i64 (Go.bits .and .i64 (rd x8_1 4) (rd x8_1 5)) (Go.bits .and .i64 (Go.bits .xor .i64 4294967295 (rd x8_1 4)) (rd x8_1 6))))) + (rd l2 x9_1))) + (rd t149 x9_1))))) 4294967295) [.int .i64 (Go.bits .and .i64 (wrap64 ((rd x8_1 3) + (wrap64 ((wrap64 ((wrap64 ((wrap64 ((rd x8_1 7) + (Go.bits .xor .i64 (Go.bits .xor .i64 t159 t160) t161))) + (Go.bits .xor .i64 (Go.bits .and .i64 (rd x8_1 4) (rd x8_1 5)) (Go.bits .and .i64 (Go.bits .xor .i64 4294967295 (rd x8_1 4)) (rd x8_1 6))))) + (rd l2 x9_1))) + (rd t149 x9_1))))) 4294967295)] from rfl) (Reps.one (show Kd.M (Kd.int .i64) _ _ _ (rd x8_1 4) [.int .i64 (rd x8_1 4)] from rfl) (Reps.one (show Kd.M (Kd.int .i64) _ _ _ (rd x8_1 5) [.int .i64 (rd x8_1 5)] from rfl) (Reps.one (show Kd.M (Kd.int .i64) _ _ _ (rd x8_1 6) [.int .i64 (rd x8_1 6)] from rfl) (Reps.none _ _))))))))))
      intro v181 w34 ho35 hb hg_ hnew_
      have HS0_ := (hb.cell (World.block_lt_of_cell? _ _ (hHeld.1))).trans (hHeld.1)
      have HS1_ := (hb.cell (World.block_lt_of_cell? _ _ (hHeld.2.1))).trans (hHeld.2.1)
      have HS2_ := (hb.cell (World.block_lt_of_cell? _ _ (hHeld.2.2.1))).trans (hHeld.2.2.1)
      have HS3_ := (hb.cell (World.block_lt_of_cell? _ _ (hHeld.2.2.2.1))).trans (hHeld.2.2.2.1)
      have HS4_ := (hb.cell (World.block_lt_of_cell? _ _ (hHeld.2.2.2.2))).trans (hHeld.2.2.2.2)
      clear hg_ hnew_
      (first | rw [← Ny180.out] at ho35 | (simp only [Int.reduceToNat] at ho35; rw [← Ny180.out] at ho35))
      have HO182 := q_ (Kd.R_lower (Kd.R_new' (Kd.R_new' ho35 (Kd.R_lt (kr_ HO_7.out))) (Kd.R_lt (kr_ HO_8.out))) (below_size (be_ HB.out)))
      replace HO_7 := q_ (Kd.R_elder' (kr_ HO_7.out) (Kd.R_base ho35) hb)
      replace HO_8 := q_ (Kd.R_elder' (kr_ HO_8.out) (Kd.R_base ho35) hb)
      replace HB := q_ (below_step (be_ HB.out) hb)
      clear hb ho35
      refine hK.out _ _ ⟨HS0_, HS1_, HS2_, HS3_, HS4_⟩ (fun hHeld => ?_)
      clear hK K
      refine nm_ ?_
      refine pu_ 25 (some 8) (bq_ 26 0) HT_ ?_
      refine done_ (done_of HT_.out (by kernel_rfl)) ?_
      try go_wp2
      go_roundg k1
      case measure => have := HK1.out; omega
      case rel => exact ⟨(y180), (wrap64 (x9_1 + 1)), rs_, H', ⟨by have := HK1.out; omega⟩, ⟨by (with_reducible repeat (first | apply Kd.R_alloc | apply Kd.R_drewN | apply Kd.R_drew)); exact Kd.R_mono HO_7.out (fun _ hk => hk.2)⟩, ⟨by (with_reducible repeat (first | apply Kd.R_alloc | apply Kd.R_drewN | apply Kd.R_drew)); exact Kd.R_mono HO182.out (fun _ hk => hk.1.2)⟩, ⟨be_ HB.out⟩⟩
    · rw [if_neg c10] at H
      have c10b0 : decide (x9_1 < 64) = false := decide_eq_false c10
      clear c10
      have H' := Aside0.mk H
      clear H
      go_wp2
      go_loopg [18] k1 (fun kq v18 w' => ∃ (x8_2 : List Int) (x18_2 : Int), v18 = .int .i64 x18_2 ∧ Aside0 (spec_l2Block.l1 kq l0 x8_2 x18_2 = some r) ∧ Aside0 (kq ≤ k1) ∧ Aside0 (Kd.R (Kd.int .i64) 3 w' w.heap.size (fun _ => True) u8 x8_2) ∧ Aside0 (Below w.heap.size w w'))
      case atStart => exact ⟨(x8_1), (0), rs_, H', ⟨Nat.le_refl _⟩, ⟨by (with_reducible repeat (first | apply Kd.R_alloc | apply Kd.R_drewN | apply Kd.R_drew)); exact Kd.R_mono HO_8.out (fun _ hk => trivial)⟩, ⟨be_ HB.out⟩⟩
      case round =>
       clear H'
       try clear c1
       try clear p1
       try clear q1
       try clear hx1
       try clear qi1
       try clear c2
       try clear p2
       try clear p6
       try clear c10
       try clear c10b0
       try clear c11
       try clear c12
       try clear c15
       try clear c16
       try clear p16
       try clear q16
       try clear hx16
       try clear qi16
       try clear c17
       try clear p17
       try clear q17
       try clear hx17
       try clear qi17
       try clear c18
       try clear c19
       try clear c20
       try clear c21
       try clear c25
       try clear c26
       try clear c27
       try clear hx167_0
       try clear hx171_0
       try clear hx172_0
       try clear hx173_0
       try clear hx174_0
       try clear hx175_0
       try clear hx176_0
       try clear hx177_0
       try clear hx178_0
       try clear hx179_0
       try clear p167
       try clear p171
       try clear p172
       try clear p173
       try clear p174
       try clear p175
       try clear p176
       try clear p177
       try clear p178
       try clear p179
       try clear q167
       try clear q171
       try clear q172
       try clear q173
       try clear q174
       try clear q175
       try clear q176
       try clear q177
       try clear q178
       try clear q179
       obtain ⟨x8_2, x18_2, rfl, HA, HK2, HO_8, HB⟩ := hrel
       cases gk with
       | zero => exact absurd HA.out (by simp [spec_l2Block.l1])
       | succ k2 =>
        have H := HA.out
        clear HA
        simp only [spec_l2Block.l1] at H
        by_cases c36 : x18_2 < 8
        · rw [if_pos c36] at H
          have c36b0 : decide (x18_2 < 8) = true := decide_eq_true c36
          clear c36
          by_cases c37 : 0 ≤ x18_2
          rotate_left
          · rw [if_neg c37] at H; exact absurd H (by simp)
          rw [if_pos c37] at H
          have c37b0 : decide (0 ≤ x18_2) = true := decide_eq_true c37
          clear c37
          by_cases c38 : x18_2 < (x8_2.length : Int)
          rotate_left
          · rw [if_neg c38] at H; exact absurd H (by simp)
          rw [if_pos c38] at H
          have c38b0 : decide (x18_2 < (x8_2.length : Int)) = true := decide_eq_true c38
          clear c38
          by_cases c39 : x18_2 < (l0.length : Int)
          rotate_left
          · rw [if_neg c39] at H; exact absurd H (by simp)
          rw [if_pos c39] at H
          have c39b0 : decide (x18_2 < (l0.length : Int)) = true := decide_eq_true c39
          clear c39
          obtain ⟨y185, hy185⟩ : ∃ y_ : List Int, y_ = (x8_2.set (x18_2 : Int).toNat (Go.bits .and .i64 (wrap64 ((rd x8_2 x18_2) + (rd l0 x18_2))) 4294967295)) := ⟨_, rfl⟩
          replace H : (spec_l2Block.l1 k2 l0 y185 (wrap64 (x18_2 + 1))) = some r := ry_ hy185 H
          have Ny185 := Aside0.mk hy185
          clear hy185
          have H' := Aside0.mk H
          clear H
          try go_wp2
          replace HO_8 := q_ (Kd.R_drew HO_8.out)
          replace HB := q_ (below_drew1 HB.out)
          obtain ⟨Ao42, co42, eo42⟩ := Kd.R_slice HO_8.out
          (first | subst eo42 | (injection eo42 with f1_ f2_ f3_; have f4_ := f1_.symm; have f5_ := f3_.symm; clear f1_ f2_ f3_; subst f4_; subst f5_))
          have p183 : 0 ≤ (x18_2 : Int) := od_
          have q183 : x18_2 < (x8_2.length : Int) := od_
          obtain ⟨ad183, e183, hx183_0⟩ := Kd.at_int (Kd.R_reads' HO_8.out).2.2 x18_2 p183 q183
          cases e183
          replace p183 := eq_true p183
          replace q183 := eq_true q183
          have p184 : 0 ≤ (x18_2 : Int) := od_
          have q184 : x18_2 < (l0.length : Int) := od_
          obtain ⟨ad184, e184, hx184_0⟩ := Kd.at_int HR0.out x18_2 p184 q184
          have hw184_0 := hx184_0
          cases e184
          replace hx184_0 := (HB.out.cell (World.block_lt_of_cell? w _ hx184_0)).trans hx184_0
          replace p184 := eq_true p184
          replace q184 := eq_true q184
          have p40 : 0 ≤ (x18_2 : Int) := od_
          have q40 : (x18_2 : Int) < ((x8_2.length : Int) : Int) := od_
          obtain ⟨go40, co40, eo40, gb40, gl40, cl40, HG40⟩ := Kd.R_form HO_8.out (by omega)
          (first | cases eo40 | (injection eo40 with ea_ en_ ec_; (first | subst ea_ | (injection ea_ with ea_; subst ea_)); subst ec_; clear en_))
          have GB40 := Aside0.mk gb40
          have GG40 := Aside0.mk HG40
          clear gb40 gl40 HG40
          (first | simp only [add_plain] at hx183_0 | skip)
          obtain ⟨hx40_0, hf40_0⟩ := Kd.R_celln 0 HO_8.out (x18_2 : Int) p40 q40
          replace p40 := eq_true p40
          replace q40 := eq_true q40
          have HP43 := Kd.R_putn HO_8.out (x18_2 : Int) (Go.bits .and .i64 (wrap64 ((rd x8_2 x18_2) + (rd l0 x18_2))) 4294967295)
          rw [← Ny185.out] at HP43
          have HQ43 := Aside0.mk HP43
          clear HP43
          refine start_ (n := 14) (S := fun w' => w'.cell? ⟨go40, (x18_2).toNat, none⟩ = some (.int .i64 (rd x8_2 x18_2)) ∧ w'.cell? (ad184.add (x18_2).toNat) = some (.int .i64 (rd l0 x18_2))) (ds := [13]) (bq_ 0 14) (by kernel_rfl) rfl rfl ⟨hx183_0, ((HB.out.cell (World.block_lt_of_cell? w _ hw184_0)).trans hw184_0)⟩ (fun hHeld => ?_); refine with_tabW spec_l2Block.tab18 spec_l2Block.bits18 (fun HT_ HW_ => ?_)
          generalize wr.drew = w41 at HO_8 HB GG40 HQ43 hf40_0 hx183_0 hx184_0 hx40_0 hHeld ⊢
          refine pu_ 0 (some 130) (bq_ 1 13) HT_ ?_
          refine pu_ 1 (some 131) (bq_ 2 12) HT_ ?_
          refine pu_ 2 (some 132) (bq_ 3 11) HT_ ?_
          refine pu_ 3 (some 133) (bq_ 4 10) HT_ ?_
          refine pu_ 4 (some 134) (bq_ 5 9) HT_ ?_
          refine pu_ 6 (some 136) (br_ [5, 1, 1, 7]) HT_ ?_
          refine pu_ 7 (some 137) (br_ [5, 1, 2, 6]) HT_ ?_
          refine pu_ 8 (some 138) (br_ [5, 1, 3, 5]) HT_ ?_
          refine take_ (i := 5) (N := some 135) (v := ?_) (a' := ?_) (bq_ 9 5) rfl rfl (take_ofW HT_.out HW_.out (by kernel_rfl)) (fun _ _ _ h => h) (Or.inl ⟨by rfl, ?_⟩) hHeld ?_ ?_
          rotate_left
          · rintro w' ⟨s0, s1⟩
            go_simp
            with_reducible rfl
          rotate_left
          · simp only [Act.put, sa_, sz_, ss_, i64_w, i32_w]; rfl
          refine take_ (i := 9) (N := some 139) (v := ?_) (a' := ?_) (bq_ 10 4) rfl rfl (take_ofW HT_.out HW_.out (by kernel_rfl)) (fun _ _ _ h => h) (Or.inl ⟨by rfl, ?_⟩) hHeld ?_ ?_
          rotate_left
          · rintro w' ⟨s0, s1⟩
            go_simp
            with_reducible rfl
          rotate_left
          · simp only [Act.put, sa_, sz_, ss_, i64_w, i32_w]; rfl
          refine pu_ 10 (some 140) (bq_ 11 3) HT_ ?_
          refine pu_ 11 (some 141) (bq_ 12 2) HT_ ?_
          refine pu_ 12 (some 142) (bq_ 13 1) HT_ ?_
          refine last_ (i := 13) (N := none) (bq_ 14 0) rfl rfl (one_of HT_.out (by kernel_rfl)) (by decide) (fun K hK => ?_)
          refine skip_ (w1 := ?_) (by rfl) rfl ?_ ?_
          rotate_left
          · go_simp
            rfl
          refine hK.out _ _ ?_
          clear hK K
          refine done_ (done_of HT_.out (by kernel_rfl)) ?_
          try go_wp2
          go_roundg k2
          case measure => have := HK1.out; have := HK2.out; omega
          case rel => exact ⟨(y185), (wrap64 (x18_2 + 1)), rs_, H', ⟨by have := HK1.out; have := HK2.out; omega⟩, ⟨by (with_reducible repeat (first | apply Kd.R_alloc | apply Kd.R_drewN | apply Kd.R_drew)); exact HQ43.out⟩, ⟨bs_ HB.out GB40.out⟩⟩
        · rw [if_neg c36] at H
          have c36b0 : decide (x18_2 < 8) = false := decide_eq_false c36
          clear c36
          obtain rfl := Option.some.inj H
          go_wp2
          go_ret
          exact ⟨_, rf_, by (with_reducible repeat (first | apply Kd.R_alloc | apply Kd.R_drewN | apply Kd.R_drew)); exact HO_8.out, be_ HB.out⟩

end Go.Proofs.Ytgaalomhipfgjaa.P
