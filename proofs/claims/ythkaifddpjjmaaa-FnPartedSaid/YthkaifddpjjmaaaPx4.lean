-- Written by wip/xp/xp.py over the kit's print; Lean checks it.
import Derived.Test.YthkaifddpjjmaaaPx0
import Derived.Test.YthkaifddpjjmaaaPx2
import Derived.Test.YthkaifddpjjmaaaPx3
namespace Go.Proofs.Ythkaifddpjjmaaa.P
open Go.RowKit Go.Proofs.YthkaifddpjjmaaaW.PrintWords Go.Proofs.YthkaifddpjjmaaaW.PrintLast Go.Proofs.YthkaifddpjjmaaaW.PrintMore
attribute [local go_sem] max2_int min2_int max_two min_two max_three min_three max_four min_four   -- for this text's walks alone
set_option linter.unusedVariables false
set_option linter.unusedSimpArgs false

/-! ###  spec_l2Block: function 83 -/
mutual
def spec_l2Block.l0 : Nat → List Int → List Int → List Int → List Int → Int → Option (List Int)
  | 0, _, _, _, _, _ => none
  | k + 1, x0, x2, x7, x8, x9 => if x9 < 64 then (if 4 < (x8.length : Int) then ((spec_l2Turn.f (rd x8 4) 6).bind fun t246 => ((spec_l2Turn.f (rd x8 4) 11).bind fun t247 => ((spec_l2Turn.f (rd x8 4) 25).bind fun t248 => (if 5 < (x8.length : Int) then (if 6 < (x8.length : Int) then (if 7 < (x8.length : Int) then (if 0 ≤ x9 then (if x9 < (x2.length : Int) then (if x9 < (x7.length : Int) then (if 0 < (x8.length : Int) then ((spec_l2Turn.f (rd x8 0) 2).bind fun t255 => ((spec_l2Turn.f (rd x8 0) 13).bind fun t256 => ((spec_l2Turn.f (rd x8 0) 22).bind fun t257 => (if 1 < (x8.length : Int) then (if 2 < (x8.length : Int) then (if 3 < (x8.length : Int) then (spec_l2Block.l0 k x0 x2 x7 (([Go.bits .and .i64 (wrap64 ((wrap64 ((wrap64 ((wrap64 ((wrap64 ((rd x8 7) + (Go.bits .xor .i64 (Go.bits .xor .i64 t246 t247) t248))) + (Go.bits .xor .i64 (Go.bits .and .i64 (rd x8 4) (rd x8 5)) (Go.bits .and .i64 (Go.bits .xor .i64 4294967295 (rd x8 4)) (rd x8 6))))) + (rd x2 x9))) + (rd x7 x9))) + (wrap64 ((Go.bits .xor .i64 (Go.bits .xor .i64 t255 t256) t257) + (Go.bits .xor .i64 (Go.bits .xor .i64 (Go.bits .and .i64 (rd x8 0) (rd x8 1)) (Go.bits .and .i64 (rd x8 0) (rd x8 2))) (Go.bits .and .i64 (rd x8 1) (rd x8 2))))))) 4294967295, rd x8 0, rd x8 1, rd x8 2, Go.bits .and .i64 (wrap64 ((rd x8 3) + (wrap64 ((wrap64 ((wrap64 ((wrap64 ((rd x8 7) + (Go.bits .xor .i64 (Go.bits .xor .i64 t246 t247) t248))) + (Go.bits .xor .i64 (Go.bits .and .i64 (rd x8 4) (rd x8 5)) (Go.bits .and .i64 (Go.bits .xor .i64 4294967295 (rd x8 4)) (rd x8 6))))) + (rd x2 x9))) + (rd x7 x9))))) 4294967295, rd x8 4, rd x8 5, rd x8 6] : List Int)) (wrap64 (x9 + 1))) else (none)) else (none)) else (none))))) else (none)) else (none)) else (none)) else (none)) else (none)) else (none)) else (none))))) else (none)) else (spec_l2Block.l1 k x0 x8 0)
def spec_l2Block.l1 : Nat → List Int → List Int → Int → Option (List Int)
  | 0, _, _, _ => none
  | k + 1, x0, x8, x18 => if x18 < 8 then (if 0 ≤ x18 then (if x18 < (x8.length : Int) then (if x18 < (x0.length : Int) then (spec_l2Block.l1 k x0 (x8.set (x18 : Int).toNat (Go.bits .and .i64 (wrap64 ((rd x8 x18) + (rd x0 x18))) 4294967295)) (wrap64 (x18 + 1))) else (none)) else (none)) else (none)) else (some x8)
end
def spec_l2Block.f (k : Nat) (l0 : List Int) (l1 : List Int) (l2 : List Int) : Option (List Int) := (spec_l2Words.f k l1).bind fun t236 => ((some (([] : List Int) : List Int)).bind fun y239 => (if y239.length + l0.length < 17592186044416 then (spec_l2Block.l0 k l0 l2 t236 (y239 ++ l0) 0) else (none)))
def spec_l2Block.T8 : Bool × List (List Nat × List Nat) := (true, [([], []), ([], []), ([1], [1]), ([2], [2]), ([0, 3], [0, 3]), ([], []), ([5], [5]), ([], []), ([7], [7]), ([8], [8]), ([6, 9], [6, 9]), ([4, 10], [4, 10]), ([11, 0, 1, 2, 3, 4, 5, 6, 7, 8, 9, 10, 11], [11])])
def spec_l2Block.B8 : List Nat := [0, 0, 2, 6, 15, 0, 32, 0, 128, 384, 992, 2047, 4095]
theorem spec_l2Block.tab8 : rtab .any (opsOf Try.f83 8) = spec_l2Block.T8 := by kernel_rfl
theorem spec_l2Block.bits8 : waitsOk spec_l2Block.T8.2 spec_l2Block.B8 = true := by kernel_rfl
def spec_l2Block.T9 : Bool × List (List Nat × List Nat) := (true, [([], []), ([0], [0]), ([1], [1]), ([], []), ([2, 3], [2, 3]), ([], []), ([4, 5], [4, 5]), ([], []), ([], []), ([7, 8], [7, 8]), ([9], [9]), ([6, 10], [6, 10]), ([], []), ([], []), ([12, 13], [12, 13]), ([14], [14]), ([11, 15], [11, 15]), ([16, 0, 1, 2, 3, 4, 5, 6, 7, 8, 9, 10, 11, 12, 13, 14, 15, 16], [16])])
def spec_l2Block.B9 : List Nat := [0, 1, 3, 0, 15, 0, 63, 0, 0, 384, 896, 2047, 0, 0, 12288, 28672, 65535, 131071]
theorem spec_l2Block.tab9 : rtab .any (opsOf Try.f83 9) = spec_l2Block.T9 := by kernel_rfl
theorem spec_l2Block.bits9 : waitsOk spec_l2Block.T9.2 spec_l2Block.B9 = true := by kernel_rfl
def spec_l2Block.T12 : Bool × List (List Nat × List Nat) := (true, [([], []), ([], []), ([1], [1]), ([2], [2]), ([0, 3], [0, 3]), ([], []), ([], []), ([6], [6]), ([7], [7]), ([5, 8], [5, 8]), ([4, 9], [4, 9]), ([], []), ([11], [11]), ([12], [12]), ([], []), ([14], [14]), ([15], [15]), ([13, 16], [13, 16]), ([10, 17], [10, 17]), ([18, 0, 1, 2, 3, 4, 5, 6, 7, 8, 9, 10, 11, 12, 13, 14, 15, 16, 17, 18], [18])])
def spec_l2Block.B12 : List Nat := [0, 0, 2, 6, 15, 0, 0, 64, 192, 480, 1023, 0, 2048, 6144, 0, 16384, 49152, 129024, 262143, 524287]
theorem spec_l2Block.tab12 : rtab .any (opsOf Try.f83 12) = spec_l2Block.T12 := by kernel_rfl
theorem spec_l2Block.bits12 : waitsOk spec_l2Block.T12.2 spec_l2Block.B12 = true := by kernel_rfl
def spec_l2Block.T14 : Bool × List (List Nat × List Nat) := (true, [([], []), ([], []), ([0, 1], [0, 1]), ([2], [2]), ([], []), ([], []), ([5], [5]), ([6], [6]), ([], []), ([8], [8]), ([9], [9]), ([], []), ([11], [11]), ([12], [12]), ([], []), ([13, 14], [13, 14]), ([15], [15]), ([], []), ([], []), ([18], [18]), ([19], [19]), ([], []), ([21], [21]), ([22], [22]), ([3, 4, 7, 10, 16, 17, 20, 23], [3, 4, 7, 10, 16, 17, 20, 23]), ([24, 0, 1, 2, 3, 4, 5, 6, 7, 8, 9, 10, 11, 12, 13, 14, 15, 16, 17, 18, 19, 20, 21, 22, 23, 24], [5, 8, 11, 18, 21, 24])])
def spec_l2Block.B14 : List Nat := [0, 0, 3, 7, 0, 0, 32, 96, 0, 256, 768, 0, 2048, 6144, 0, 30720, 63488, 0, 0, 262144, 786432, 0, 2097152, 6291456, 16777215, 33554431]
theorem spec_l2Block.tab14 : rtab .any (opsOf Try.f83 14) = spec_l2Block.T14 := by kernel_rfl
theorem spec_l2Block.bits14 : waitsOk spec_l2Block.T14.2 spec_l2Block.B14 = true := by kernel_rfl
def spec_l2Block.T18 : Bool × List (List Nat × List Nat) := (true, [([], []), ([], []), ([], []), ([], []), ([2, 3], [2, 3]), ([4], [4]), ([], []), ([], []), ([6, 7], [6, 7]), ([8], [8]), ([5, 9], [5, 9]), ([10], [10]), ([0, 1, 0, 1, 2, 3, 4, 5, 6, 7, 8, 9, 10, 11], [0, 1]), ([12, 11, 0, 1, 2, 3, 4, 5, 6, 7, 8, 9, 10, 11], [11, 12])])
def spec_l2Block.B18 : List Nat := [0, 0, 0, 0, 12, 28, 0, 0, 192, 448, 1020, 2044, 4095, 8191]
theorem spec_l2Block.tab18 : rtab .any (opsOf Try.f83 18) = spec_l2Block.T18 := by kernel_rfl
theorem spec_l2Block.bits18 : waitsOk spec_l2Block.T18.2 spec_l2Block.B18 = true := by kernel_rfl
set_option maxHeartbeats 8000000 in
set_option maxRecDepth 100000 in
theorem spec_l2Block.calls (k : Nat) (A0 : Option Addr) (c0 : Nat) (l0 : List Int) (A1 : Option Addr) (c1 : Nat) (l1 : List Int) (A2 : Option Addr) (c2 : Nat) (l2 : List Int) (r : List Int) (w : World) (hr0 : Kd.C (Kd.int .i64) w A0 l0.length l0) (hc0 : l0.length ≤ c0) (hr1 : Kd.C (Kd.int .u8) w A1 l1.length l1) (hc1 : l1.length ≤ c1) (hr2 : Kd.C (Kd.int .i64) w A2 l2.length l2) (hc2 : l2.length ≤ c2) (h : spec_l2Block.f k l0 l1 l2 = some r) :
  Calls Try.prog 83 #[.slice A0 l0.length c0, .slice A1 l1.length c1, .slice A2 l2.length c2] w fun e w' => ∃ v0_ : Value, e = .returned (v0_) ∧ Kd.R (Kd.int .i64) 3 w' w.heap.size (fun _ => True) v0_ r ∧ Below w.heap.size w w' := by
  have HR0 := Aside0.mk hr0
  have HC0 := Aside0.mk hc0
  clear hr0 hc0
  have HR1 := Aside0.mk hr1
  have HC1 := Aside0.mk hc1
  clear hr1 hc1
  have HR2 := Aside0.mk hr2
  have HC2 := Aside0.mk hc2
  clear hr2 hc2
  have HB := q_ (Below.refl w.heap.size w)
  have H := h
  clear h
  unfold spec_l2Block.f at H
  obtain ⟨t236, A4, H⟩ := bo_ H
  obtain ⟨y239, Ny239, H⟩ := by_ H
  obtain ⟨c5, H⟩ := ip_ H
  have LMc5 := Aside0.mk c5
  clear c5
  obtain ⟨y242, hy242⟩ : ∃ y_ : List Int, y_ = (y239 ++ l0) := ⟨_, rfl⟩
  replace H : (spec_l2Block.l0 k l0 l2 t236 y242 0) = some r := ry_ hy242 H
  have Ny242 := Aside0.mk hy242
  clear hy242
  have H' := Aside0.mk H
  clear H
  go_enter Try.func83, Try.ntmps83
  go_wp2_with (first | ((with_reducible refine gate_callee (f := 104) rfl ?_); refine gl_ (some 20) Try.func104 #[.slice A1 l1.length c1] rfl al_ ?_; (with_reducible refine (spec_l2Words.calls k _ _ l1 t236 _ ?side1 ?side2 A4.out).mono ?_); (case side1 => exact kc_ HR1.out); (case side2 => exact HC1.out); rintro e w6 ⟨v237, rfl, ho0, hb⟩; refine ⟨_, rfl, ?_⟩; have HO238 := q_ (Kd.R_lower ho0 (below_size (be_ HB.out))); replace HB := q_ (below_step (be_ HB.out) hb); (try clear hb); (try clear ho0)) | ((with_reducible refine gate_dst (N := 21) rfl ?_); refine Kd.R_lit (Kd.int .i64) _ 3 ?hg (N := 21) ?hd (xs := ([] : List Int)) (inner := []) (ok := fun _ => True) (okp := fun _ => True) ?hr ?hp (fun _ hk => hk) trivial (Below.refl _ _) (Nat.le_refl _) (by simp) ?_; (case hd => rfl); (case hg => rfl); (case hr => first | (go_simp; done) | (go_simp; rfl)); (case hp => exact (Reps.none _ _)); intro v240 w7 ho8 hb hg_ hnew_; clear hg_ hnew_; (first | rw [← Ny239.out] at ho8 | (simp only [Int.reduceToNat] at ho8; rw [← Ny239.out] at ho8)); have HO241 := q_ (Kd.R_lower (Kd.R_new' ho8 (Kd.R_lt (kr_ HO238.out))) (below_size (be_ HB.out))); replace HO238 := q_ (Kd.R_elder' (kr_ HO238.out) (Kd.R_base ho8) hb); replace HB := q_ (below_step (be_ HB.out) hb); clear hb ho8) | ((with_reducible refine gate_builtin (b := .append) (xs := #[.tmp 21, .tmp 22]) rfl ?_); at_builtin; refine Kd.R_append_rows (Kd.int .i64) (w0 := w) w.heap.size rfl (.tmp 21) (.tmp 22) 66 3 (.int .i64 0) 8 rfl Try.underlying66 info3 rfl (by decide) (by omega) v240 y239 l0 _ _ _ (fun k_ => some k_ ≠ (v237 : Value).ownBlock) (fun _ => False) rfl rfl ?aO ?aR (fun _ _ h => h) (fun _ h => h.elim) ?aF ?aB ?aS ?aL ?_; (case aR => exact kc_ (Kd.C_below HR0.out HB.out)); (case aB => exact (be_ HB.out)); (case aF => exact (fun k_ hk => Kd.fresh' (Kd.R_lt (kr_ HO238.out)) k_ hk)); (case aO => exact (by (with_reducible repeat (first | apply Kd.R_alloc | apply Kd.R_drewN | apply Kd.R_drew)); exact Kd.R_mono HO241.out (fun _ hk => hk.2))); (case aS => exact (below_size (be_ HB.out))); (case aL => have := LMc5.out; omega); intro v243 w9 ho hb hg hat; rw [← Ny242.out] at ho; have n0_ := q_ (Kd.R_after (ok := (fun _ => True)) (kr_ HO238.out) hg hat); have n1_ := q_ (hb); have n2_ := q_ (ho); clear HO238; clear HB; clear HO241; have HO238 := n0_; have HB := n1_; have HO244 := n2_; clear n0_ n1_ n2_; clear ho hb hg hat))
  go_loopg [8, 9] k (fun kq v8 v9 w' => ∃ (x8_1 : List Int) (x9_1 : Int), v9 = .int .i64 x9_1 ∧ Aside0 (spec_l2Block.l0 kq l0 l2 t236 x8_1 x9_1 = some r) ∧ Aside0 (kq ≤ k) ∧ Aside0 (Kd.R (Kd.int .i64) 3 w' w.heap.size (fun k_ => some k_ ≠ (v8 : Value).ownBlock) v237 t236) ∧ Aside0 (Kd.R (Kd.int .i64) 3 w' w.heap.size (fun k_ => some k_ ≠ (v237 : Value).ownBlock) v8 x8_1) ∧ Aside0 (Below w.heap.size w w'))
  case atStart => exact ⟨(y242), (0), rs_, H', ⟨Nat.le_refl _⟩, ⟨by (with_reducible repeat (first | apply Kd.R_alloc | apply Kd.R_drewN | apply Kd.R_drew)); exact Kd.R_mono HO238.out (fun _ hk => hk.2)⟩, ⟨by (with_reducible repeat (first | apply Kd.R_alloc | apply Kd.R_drewN | apply Kd.R_drew)); exact HO244.out⟩, ⟨be_ HB.out⟩⟩
  case round =>
   clear H'
   try clear c1
   try clear c2
   try clear p2
   try clear c5
   try clear c8
   obtain ⟨x8_1, x9_1, rfl, HA, HK1, HO_7, HO_8, HB⟩ := hrel
   cases gk with
   | zero => exact absurd HA.out (by simp [spec_l2Block.l0])
   | succ k1 =>
    have H := HA.out
    clear HA
    simp only [spec_l2Block.l0] at H
    by_cases c10 : x9_1 < 64
    · rw [if_pos c10] at H
      have c10b0 := decide_eq_true c10
      clear c10
      obtain ⟨c11, H⟩ := ip_ H
      have c11b0 : decide (4 < (x8_1.length : Int)) = true := decide_eq_true c11
      have c11b1 : decide (4 < x8_1.length) = true := decide_eq_true (by omega)
      clear c11
      obtain ⟨t246, A12, H⟩ := bo_ H
      obtain ⟨t247, A13, H⟩ := bo_ H
      obtain ⟨t248, A14, H⟩ := bo_ H
      obtain ⟨c15, H⟩ := ip_ H
      have c15b0 : decide (5 < (x8_1.length : Int)) = true := decide_eq_true c15
      have c15b1 : decide (5 < x8_1.length) = true := decide_eq_true (by omega)
      clear c15
      obtain ⟨c16, H⟩ := ip_ H
      have c16b0 : decide (6 < (x8_1.length : Int)) = true := decide_eq_true c16
      have c16b1 : decide (6 < x8_1.length) = true := decide_eq_true (by omega)
      clear c16
      obtain ⟨c17, H⟩ := ip_ H
      have c17b0 : decide (7 < (x8_1.length : Int)) = true := decide_eq_true c17
      have c17b1 : decide (7 < x8_1.length) = true := decide_eq_true (by omega)
      clear c17
      obtain ⟨c18, H⟩ := ip_ H
      have c18b0 : decide (0 ≤ x9_1) = true := decide_eq_true c18
      clear c18
      obtain ⟨c19, H⟩ := ip_ H
      have c19b0 : decide (x9_1 < (l2.length : Int)) = true := decide_eq_true c19
      clear c19
      obtain ⟨c20, H⟩ := ip_ H
      have c20b0 : decide (x9_1 < (t236.length : Int)) = true := decide_eq_true c20
      clear c20
      obtain ⟨c21, H⟩ := ip_ H
      have c21b0 : decide (0 < (x8_1.length : Int)) = true := decide_eq_true c21
      have c21b1 : decide (0 < x8_1.length) = true := decide_eq_true (by omega)
      clear c21
      obtain ⟨t255, A22, H⟩ := bo_ H
      obtain ⟨t256, A23, H⟩ := bo_ H
      obtain ⟨t257, A24, H⟩ := bo_ H
      obtain ⟨c25, H⟩ := ip_ H
      have c25b0 : decide (1 < (x8_1.length : Int)) = true := decide_eq_true c25
      have c25b1 : decide (1 < x8_1.length) = true := decide_eq_true (by omega)
      clear c25
      obtain ⟨c26, H⟩ := ip_ H
      have c26b0 : decide (2 < (x8_1.length : Int)) = true := decide_eq_true c26
      have c26b1 : decide (2 < x8_1.length) = true := decide_eq_true (by omega)
      clear c26
      obtain ⟨c27, H⟩ := ip_ H
      have c27b0 : decide (3 < (x8_1.length : Int)) = true := decide_eq_true c27
      have c27b1 : decide (3 < x8_1.length) = true := decide_eq_true (by omega)
      clear c27
      obtain ⟨y267, hy267⟩ : ∃ y_ : List Int, y_ = (([Go.bits .and .i64 (wrap64 ((wrap64 ((wrap64 ((wrap64 ((wrap64 ((rd x8_1 7) + (Go.bits .xor .i64 (Go.bits .xor .i64 t246 t247) t248))) + (Go.bits .xor .i64 (Go.bits .and .i64 (rd x8_1 4) (rd x8_1 5)) (Go.bits .and .i64 (Go.bits .xor .i64 4294967295 (rd x8_1 4)) (rd x8_1 6))))) + (rd l2 x9_1))) + (rd t236 x9_1))) + (wrap64 ((Go.bits .xor .i64 (Go.bits .xor .i64 t255 t256) t257) + (Go.bits .xor .i64 (Go.bits .xor .i64 (Go.bits .and .i64 (rd x8_1 0) (rd x8_1 1)) (Go.bits .and .i64 (rd x8_1 0) (rd x8_1 2))) (Go.bits .and .i64 (rd x8_1 1) (rd x8_1 2))))))) 4294967295, rd x8_1 0, rd x8_1 1, rd x8_1 2, Go.bits .and .i64 (wrap64 ((rd x8_1 3) + (wrap64 ((wrap64 ((wrap64 ((wrap64 ((rd x8_1 7) + (Go.bits .xor .i64 (Go.bits .xor .i64 t246 t247) t248))) + (Go.bits .xor .i64 (Go.bits .and .i64 (rd x8_1 4) (rd x8_1 5)) (Go.bits .and .i64 (Go.bits .xor .i64 4294967295 (rd x8_1 4)) (rd x8_1 6))))) + (rd l2 x9_1))) + (rd t236 x9_1))))) 4294967295, rd x8_1 4, rd x8_1 5, rd x8_1 6] : List Int)) := ⟨_, rfl⟩
      replace H : (spec_l2Block.l0 k1 l0 l2 t236 y267 (wrap64 (x9_1 + 1))) = some r := ry_ hy267 H
      have Ny267 := Aside0.mk hy267
      clear hy267
      have H' := Aside0.mk H
      clear H
      obtain ⟨Ao28, co28, eo28⟩ := Kd.R_slice HO_8.out
      subst eo28
      have p245 : 0 ≤ (4 : Int) := (by omega)
      have q245 : 4 < (x8_1.length : Int) := od_
      obtain ⟨ad245, e245, hx245_0⟩ := Kd.at_int (Kd.R_reads' HO_8.out).2.2 4 p245 q245
      cases e245
      (try simp only [show (4 : Int).toNat = 4 from rfl, Nat.reduceMul, Nat.reduceEqDiff, Go.Addr.add, ↓reduceIte] at hx245_0)
      have qi245 : (4 < x8_1.length) = True := eq_true (by omega)
      (try rw [show ((4 : Int)).toNat = 4 from rfl] at hx245_0)
      replace p245 := eq_true p245
      replace q245 := eq_true q245
      try go_wp2_with (first | ((with_reducible refine gate_callee (f := 105) rfl ?_); refine gl_ (some 32) Try.func105 #[.int .i64 (rd x8_1 4), .int .i64 6] rfl al_ ?_; (with_reducible refine (spec_l2Turn.calls (rd x8_1 4) 6 t246 _ A12.out).mono ?_); rintro e w' ⟨rfl, ⟨nd, rfl⟩⟩; refine ⟨_, rfl, ?_⟩) | ((with_reducible refine gate_callee (f := 105) rfl ?_); refine gl_ (some 34) Try.func105 #[.int .i64 (rd x8_1 4), .int .i64 11] rfl al_ ?_; (with_reducible refine (spec_l2Turn.calls (rd x8_1 4) 11 t247 _ A13.out).mono ?_); rintro e w' ⟨rfl, ⟨nd, rfl⟩⟩; refine ⟨_, rfl, ?_⟩) | ((with_reducible refine gate_callee (f := 105) rfl ?_); refine gl_ (some 37) Try.func105 #[.int .i64 (rd x8_1 4), .int .i64 25] rfl al_ ?_; (with_reducible refine (spec_l2Turn.calls (rd x8_1 4) 25 t248 _ A14.out).mono ?_); rintro e w' ⟨rfl, ⟨nd, rfl⟩⟩; refine ⟨_, rfl, ?_⟩))
      (try (rw [drewN_self wr]; generalize hq_ : World.drewN wr _ = wr; have n0_ : Aside0 (Kd.R (Kd.int .i64) 3 wr w.heap.size (fun k_ => some k_ ≠ (.slice (some ad245) x8_1.length co28 : Value).ownBlock) v237 t236) := ⟨by rw [← hq_]; exact (kr_ HO_7.out)⟩; have n1_ : Aside0 (Kd.R (Kd.int .i64) 3 wr w.heap.size (fun k_ => some k_ ≠ (v237 : Value).ownBlock) (.slice (some ad245) x8_1.length co28) x8_1) := ⟨by rw [← hq_]; exact (kr_ HO_8.out)⟩; have n2_ : Aside0 (Below w.heap.size w wr) := ⟨by rw [← hq_]; exact (be_ HB.out)⟩; clear HO_7 HO_8 HB hq_; have HO_7 := n0_; have HO_8 := n1_; have HB := n2_; clear n0_ n1_ n2_))
      replace HO_7 := q_ (Kd.R_drew HO_7.out)
      replace HO_8 := q_ (Kd.R_drew HO_8.out)
      replace HB := q_ (below_drew1 HB.out)
      have p249 : 0 ≤ (5 : Int) := (by omega)
      have q249 : 5 < (x8_1.length : Int) := od_
      obtain ⟨ad249, e249, hx249_0⟩ := Kd.at_int (Kd.R_reads' HO_8.out).2.2 5 p249 q249
      obtain rfl : ad245 = ad249 := (by injection e249)
      (try simp only [show (5 : Int).toNat = 5 from rfl, Nat.reduceMul, Nat.reduceEqDiff, Go.Addr.add, ↓reduceIte] at hx249_0)
      have qi249 : (5 < x8_1.length) = True := eq_true (by omega)
      (try rw [show ((5 : Int)).toNat = 5 from rfl] at hx249_0)
      replace p249 := eq_true p249
      replace q249 := eq_true q249
      have p250 : 0 ≤ (6 : Int) := (by omega)
      have q250 : 6 < (x8_1.length : Int) := od_
      obtain ⟨ad250, e250, hx250_0⟩ := Kd.at_int (Kd.R_reads' HO_8.out).2.2 6 p250 q250
      obtain rfl : ad245 = ad250 := (by injection e250)
      (try simp only [show (6 : Int).toNat = 6 from rfl, Nat.reduceMul, Nat.reduceEqDiff, Go.Addr.add, ↓reduceIte] at hx250_0)
      have qi250 : (6 < x8_1.length) = True := eq_true (by omega)
      (try rw [show ((6 : Int)).toNat = 6 from rfl] at hx250_0)
      replace p250 := eq_true p250
      replace q250 := eq_true q250
      refine start_ (n := 13) (S := fun w' => w'.cell? ⟨ad245.block, ad245.off + 5, none⟩ = some (.int .i64 (rd x8_1 5)) ∧ w'.cell? ⟨ad245.block, ad245.off + 6, none⟩ = some (.int .i64 (rd x8_1 6))) (ds := []) (bq_ 0 13) (by kernel_rfl) rfl rfl ⟨hx249_0, hx250_0⟩ (fun hHeld => ?_); refine with_tabW spec_l2Block.tab8 spec_l2Block.bits8 (fun HT_ HW_ => ?_)
      generalize wr.drew = w29 at HO_7 HO_8 HB hx249_0 hx250_0 hHeld ⊢
      refine p_ 0 39 HT_ ?_; refine p_ 1 40 HT_ ?_; refine p_ 2 41 HT_ ?_; refine p_ 5 44 HT_ ?_; refine p_ 6 45 HT_ ?_; refine p_ 7 46 HT_ ?_; refine p_ 8 47 HT_ ?_; refine k_ 3 42 HT_ HW_ hHeld ?_; refine p_ 4 43 HT_ ?_; refine k_ 9 48 HT_ HW_ hHeld ?_; refine p_ 10 49 HT_ ?_; refine p_ 11 50 HT_ ?_; refine p_ 12 12 HT_ ?_
      refine done_ (done_of HT_.out (by kernel_rfl)) ?_
      try go_wp2
      replace HO_7 := q_ (Kd.R_drew HO_7.out)
      replace HO_8 := q_ (Kd.R_drew HO_8.out)
      replace HB := q_ (below_drew1 HB.out)
      have p251 : 0 ≤ (7 : Int) := (by omega)
      have q251 : 7 < (x8_1.length : Int) := od_
      obtain ⟨ad251, e251, hx251_0⟩ := Kd.at_int (Kd.R_reads' HO_8.out).2.2 7 p251 q251
      obtain rfl : ad245 = ad251 := (by injection e251)
      (try simp only [show (7 : Int).toNat = 7 from rfl, Nat.reduceMul, Nat.reduceEqDiff, Go.Addr.add, ↓reduceIte] at hx251_0)
      have qi251 : (7 < x8_1.length) = True := eq_true (by omega)
      (try rw [show ((7 : Int)).toNat = 7 from rfl] at hx251_0)
      replace p251 := eq_true p251
      replace q251 := eq_true q251
      have p252 : 0 ≤ (x9_1 : Int) := od_
      have q252 : x9_1 < (l2.length : Int) := od_
      obtain ⟨ad252, e252, hx252_0⟩ := Kd.at_int HR2.out x9_1 p252 q252
      have hw252_0 := hx252_0
      cases e252
      replace hx252_0 := hc_ HB.out hx252_0
      replace p252 := eq_true p252
      replace q252 := eq_true q252
      obtain ⟨Ao31, co31, eo31⟩ := Kd.R_slice HO_7.out
      (first | subst eo31 | (injection eo31 with f1_ f2_ f3_; have f4_ := f1_.symm; have f5_ := f3_.symm; clear f1_ f2_ f3_; subst f4_; subst f5_))
      have p253 : 0 ≤ (x9_1 : Int) := od_
      have q253 : x9_1 < (t236.length : Int) := od_
      obtain ⟨ad253, e253, hx253_0⟩ := Kd.at_int (Kd.R_reads' HO_7.out).2.2 x9_1 p253 q253
      cases e253
      replace p253 := eq_true p253
      replace q253 := eq_true q253
      refine start_ (n := 18) (S := fun w' => w'.cell? ⟨ad245.block, ad245.off + 7, none⟩ = some (.int .i64 (rd x8_1 7)) ∧ w'.cell? (ad252.add (x9_1).toNat) = some (.int .i64 (rd l2 x9_1)) ∧ w'.cell? (ad253.add (x9_1).toNat) = some (.int .i64 (rd t236 x9_1))) (ds := []) (bq_ 0 18) (by kernel_rfl) rfl rfl ⟨hx251_0, (hc_ HB.out hw252_0), hx253_0⟩ (fun hHeld => ?_); refine with_tabW spec_l2Block.tab9 spec_l2Block.bits9 (fun HT_ HW_ => ?_)
      generalize w29.drew = w30 at HO_7 HO_8 HB hx251_0 hx252_0 hx253_0 hHeld ⊢
      refine p_ 0 51 HT_ ?_; refine p_ 1 52 HT_ ?_; refine p_ 3 54 HT_ ?_; refine p_ 5 56 HT_ ?_; refine p_ 7 58 HT_ ?_; refine p_ 8 59 HT_ ?_; refine p_ 9 60 HT_ ?_; refine p_ 12 63 HT_ ?_; refine p_ 13 64 HT_ ?_; refine p_ 14 65 HT_ ?_; refine k_ 2 53 HT_ HW_ hHeld ?_; refine p_ 4 55 HT_ ?_; refine p_ 6 57 HT_ ?_; refine k_ 10 61 HT_ HW_ hHeld ?_; refine p_ 11 62 HT_ ?_; refine k_ 15 66 HT_ HW_ hHeld ?_; refine p_ 16 67 HT_ ?_; refine p_ 17 13 HT_ ?_
      refine done_ (done_of HT_.out (by kernel_rfl)) ?_
      have p254 : 0 ≤ (0 : Int) := (by omega)
      have q254 : 0 < (x8_1.length : Int) := od_
      obtain ⟨ad254, e254, hx254_0⟩ := Kd.at_int (Kd.R_reads' HO_8.out).2.2 0 p254 q254
      obtain rfl : ad245 = ad254 := (by injection e254)
      have qi254 : (0 < x8_1.length) = True := eq_true (by omega)
      (try rw [show ((0 : Int)).toNat = 0 from rfl] at hx254_0)
      (try rw [Addr.add_zero'] at hx254_0)
      replace p254 := eq_true p254
      replace q254 := eq_true q254
      try go_wp2_with (first | ((with_reducible refine gate_callee (f := 105) rfl ?_); refine gl_ (some 72) Try.func105 #[.int .i64 (rd x8_1 0), .int .i64 2] rfl al_ ?_; (with_reducible refine (spec_l2Turn.calls (rd x8_1 0) 2 t255 _ A22.out).mono ?_); rintro e w' ⟨rfl, ⟨nd, rfl⟩⟩; refine ⟨_, rfl, ?_⟩) | ((with_reducible refine gate_callee (f := 105) rfl ?_); refine gl_ (some 74) Try.func105 #[.int .i64 (rd x8_1 0), .int .i64 13] rfl al_ ?_; (with_reducible refine (spec_l2Turn.calls (rd x8_1 0) 13 t256 _ A23.out).mono ?_); rintro e w' ⟨rfl, ⟨nd, rfl⟩⟩; refine ⟨_, rfl, ?_⟩) | ((with_reducible refine gate_callee (f := 105) rfl ?_); refine gl_ (some 77) Try.func105 #[.int .i64 (rd x8_1 0), .int .i64 22] rfl al_ ?_; (with_reducible refine (spec_l2Turn.calls (rd x8_1 0) 22 t257 _ A24.out).mono ?_); rintro e w' ⟨rfl, ⟨nd, rfl⟩⟩; refine ⟨_, rfl, ?_⟩))
      (try (rw [drewN_self w30]; generalize hq_ : World.drewN w30 _ = w30; have n0_ : Aside0 (Kd.R (Kd.int .i64) 3 w30 w.heap.size (fun k_ => some k_ ≠ (.slice (some ad245) x8_1.length co28 : Value).ownBlock) (.slice (some ad253) t236.length co31) t236) := ⟨by rw [← hq_]; exact (kr_ HO_7.out)⟩; have n1_ : Aside0 (Kd.R (Kd.int .i64) 3 w30 w.heap.size (fun k_ => some k_ ≠ (.slice (some ad253) t236.length co31 : Value).ownBlock) (.slice (some ad245) x8_1.length co28) x8_1) := ⟨by rw [← hq_]; exact (kr_ HO_8.out)⟩; have n2_ : Aside0 (Below w.heap.size w w30) := ⟨by rw [← hq_]; exact (be_ HB.out)⟩; clear HO_7 HO_8 HB hq_; have HO_7 := n0_; have HO_8 := n1_; have HB := n2_; clear n0_ n1_ n2_))
      replace HO_7 := q_ (Kd.R_drew HO_7.out)
      replace HO_8 := q_ (Kd.R_drew HO_8.out)
      replace HB := q_ (below_drew1 HB.out)
      have p258 : 0 ≤ (1 : Int) := (by omega)
      have q258 : 1 < (x8_1.length : Int) := od_
      obtain ⟨ad258, e258, hx258_0⟩ := Kd.at_int (Kd.R_reads' HO_8.out).2.2 1 p258 q258
      obtain rfl : ad245 = ad258 := (by injection e258)
      (try simp only [show (1 : Int).toNat = 1 from rfl, Nat.reduceMul, Nat.reduceEqDiff, Go.Addr.add, ↓reduceIte] at hx258_0)
      have qi258 : (1 < x8_1.length) = True := eq_true (by omega)
      (try rw [show ((1 : Int)).toNat = 1 from rfl] at hx258_0)
      replace p258 := eq_true p258
      replace q258 := eq_true q258
      have p259 : 0 ≤ (2 : Int) := (by omega)
      have q259 : 2 < (x8_1.length : Int) := od_
      obtain ⟨ad259, e259, hx259_0⟩ := Kd.at_int (Kd.R_reads' HO_8.out).2.2 2 p259 q259
      obtain rfl : ad245 = ad259 := (by injection e259)
      (try simp only [show (2 : Int).toNat = 2 from rfl, Nat.reduceMul, Nat.reduceEqDiff, Go.Addr.add, ↓reduceIte] at hx259_0)
      have qi259 : (2 < x8_1.length) = True := eq_true (by omega)
      (try rw [show ((2 : Int)).toNat = 2 from rfl] at hx259_0)
      replace p259 := eq_true p259
      replace q259 := eq_true q259
      have p260 : 0 ≤ (1 : Int) := (by omega)
      have q260 : 1 < (x8_1.length : Int) := od_
      obtain ⟨ad260, e260, hx260_0⟩ := Kd.at_int (Kd.R_reads' HO_8.out).2.2 1 p260 q260
      obtain rfl : ad245 = ad260 := (by injection e260)
      (try simp only [show (1 : Int).toNat = 1 from rfl, Nat.reduceMul, Nat.reduceEqDiff, Go.Addr.add, ↓reduceIte] at hx260_0)
      have qi260 : (1 < x8_1.length) = True := eq_true (by omega)
      (try rw [show ((1 : Int)).toNat = 1 from rfl] at hx260_0)
      replace p260 := eq_true p260
      replace q260 := eq_true q260
      have p261 : 0 ≤ (2 : Int) := (by omega)
      have q261 : 2 < (x8_1.length : Int) := od_
      obtain ⟨ad261, e261, hx261_0⟩ := Kd.at_int (Kd.R_reads' HO_8.out).2.2 2 p261 q261
      obtain rfl : ad245 = ad261 := (by injection e261)
      (try simp only [show (2 : Int).toNat = 2 from rfl, Nat.reduceMul, Nat.reduceEqDiff, Go.Addr.add, ↓reduceIte] at hx261_0)
      have qi261 : (2 < x8_1.length) = True := eq_true (by omega)
      (try rw [show ((2 : Int)).toNat = 2 from rfl] at hx261_0)
      replace p261 := eq_true p261
      replace q261 := eq_true q261
      refine start_ (n := 20) (S := fun w' => w'.cell? ⟨ad245.block, ad245.off + 1, none⟩ = some (.int .i64 (rd x8_1 1)) ∧ w'.cell? ⟨ad245.block, ad245.off + 2, none⟩ = some (.int .i64 (rd x8_1 2)) ∧ w'.cell? ⟨ad245.block, ad245.off + 1, none⟩ = some (.int .i64 (rd x8_1 1)) ∧ w'.cell? ⟨ad245.block, ad245.off + 2, none⟩ = some (.int .i64 (rd x8_1 2))) (ds := []) (bq_ 0 20) (by kernel_rfl) rfl rfl ⟨hx258_0, hx259_0, hx260_0, hx261_0⟩ (fun hHeld => ?_); refine with_tabW spec_l2Block.tab12 spec_l2Block.bits12 (fun HT_ HW_ => ?_)
      generalize w30.drew = w32 at HO_7 HO_8 HB hx258_0 hx259_0 hx260_0 hx261_0 hHeld ⊢
      refine p_ 0 79 HT_ ?_; refine p_ 1 80 HT_ ?_; refine p_ 2 81 HT_ ?_; refine p_ 5 84 HT_ ?_; refine p_ 6 85 HT_ ?_; refine p_ 7 86 HT_ ?_; refine p_ 11 90 HT_ ?_; refine p_ 12 91 HT_ ?_; refine p_ 14 93 HT_ ?_; refine p_ 15 94 HT_ ?_; refine k_ 3 82 HT_ HW_ hHeld ?_; refine p_ 4 83 HT_ ?_; refine k_ 8 87 HT_ HW_ hHeld ?_; refine p_ 9 88 HT_ ?_; refine p_ 10 89 HT_ ?_; refine k_ 13 92 HT_ HW_ hHeld ?_; refine k_ 16 95 HT_ HW_ hHeld ?_; refine p_ 17 96 HT_ ?_; refine p_ 18 97 HT_ ?_; refine p_ 19 16 HT_ ?_
      refine done_ (done_of HT_.out (by kernel_rfl)) ?_
      try go_wp2
      replace HO_7 := q_ (Kd.R_drew HO_7.out)
      replace HO_8 := q_ (Kd.R_drew HO_8.out)
      replace HB := q_ (below_drew1 HB.out)
      have p262 : 0 ≤ (1 : Int) := (by omega)
      have q262 : 1 < (x8_1.length : Int) := od_
      obtain ⟨ad262, e262, hx262_0⟩ := Kd.at_int (Kd.R_reads' HO_8.out).2.2 1 p262 q262
      obtain rfl : ad245 = ad262 := (by injection e262)
      (try simp only [show (1 : Int).toNat = 1 from rfl, Nat.reduceMul, Nat.reduceEqDiff, Go.Addr.add, ↓reduceIte] at hx262_0)
      have qi262 : (1 < x8_1.length) = True := eq_true (by omega)
      (try rw [show ((1 : Int)).toNat = 1 from rfl] at hx262_0)
      replace p262 := eq_true p262
      replace q262 := eq_true q262
      have p263 : 0 ≤ (2 : Int) := (by omega)
      have q263 : 2 < (x8_1.length : Int) := od_
      obtain ⟨ad263, e263, hx263_0⟩ := Kd.at_int (Kd.R_reads' HO_8.out).2.2 2 p263 q263
      obtain rfl : ad245 = ad263 := (by injection e263)
      (try simp only [show (2 : Int).toNat = 2 from rfl, Nat.reduceMul, Nat.reduceEqDiff, Go.Addr.add, ↓reduceIte] at hx263_0)
      have qi263 : (2 < x8_1.length) = True := eq_true (by omega)
      (try rw [show ((2 : Int)).toNat = 2 from rfl] at hx263_0)
      replace p263 := eq_true p263
      replace q263 := eq_true q263
      have p264 : 0 ≤ (3 : Int) := (by omega)
      have q264 : 3 < (x8_1.length : Int) := od_
      obtain ⟨ad264, e264, hx264_0⟩ := Kd.at_int (Kd.R_reads' HO_8.out).2.2 3 p264 q264
      obtain rfl : ad245 = ad264 := (by injection e264)
      (try simp only [show (3 : Int).toNat = 3 from rfl, Nat.reduceMul, Nat.reduceEqDiff, Go.Addr.add, ↓reduceIte] at hx264_0)
      have qi264 : (3 < x8_1.length) = True := eq_true (by omega)
      (try rw [show ((3 : Int)).toNat = 3 from rfl] at hx264_0)
      replace p264 := eq_true p264
      replace q264 := eq_true q264
      have p265 : 0 ≤ (5 : Int) := (by omega)
      have q265 : 5 < (x8_1.length : Int) := od_
      obtain ⟨ad265, e265, hx265_0⟩ := Kd.at_int (Kd.R_reads' HO_8.out).2.2 5 p265 q265
      obtain rfl : ad245 = ad265 := (by injection e265)
      (try simp only [show (5 : Int).toNat = 5 from rfl, Nat.reduceMul, Nat.reduceEqDiff, Go.Addr.add, ↓reduceIte] at hx265_0)
      have qi265 : (5 < x8_1.length) = True := eq_true (by omega)
      (try rw [show ((5 : Int)).toNat = 5 from rfl] at hx265_0)
      replace p265 := eq_true p265
      replace q265 := eq_true q265
      have p266 : 0 ≤ (6 : Int) := (by omega)
      have q266 : 6 < (x8_1.length : Int) := od_
      obtain ⟨ad266, e266, hx266_0⟩ := Kd.at_int (Kd.R_reads' HO_8.out).2.2 6 p266 q266
      obtain rfl : ad245 = ad266 := (by injection e266)
      (try simp only [show (6 : Int).toNat = 6 from rfl, Nat.reduceMul, Nat.reduceEqDiff, Go.Addr.add, ↓reduceIte] at hx266_0)
      have qi266 : (6 < x8_1.length) = True := eq_true (by omega)
      (try rw [show ((6 : Int)).toNat = 6 from rfl] at hx266_0)
      replace p266 := eq_true p266
      replace q266 := eq_true q266
      refine start_ (n := 26) (S := fun w' => w'.cell? ⟨ad245.block, ad245.off + 1, none⟩ = some (.int .i64 (rd x8_1 1)) ∧ w'.cell? ⟨ad245.block, ad245.off + 2, none⟩ = some (.int .i64 (rd x8_1 2)) ∧ w'.cell? ⟨ad245.block, ad245.off + 3, none⟩ = some (.int .i64 (rd x8_1 3)) ∧ w'.cell? ⟨ad245.block, ad245.off + 5, none⟩ = some (.int .i64 (rd x8_1 5)) ∧ w'.cell? ⟨ad245.block, ad245.off + 6, none⟩ = some (.int .i64 (rd x8_1 6))) (ds := []) (bq_ 0 26) (by kernel_rfl) rfl rfl ⟨hx262_0, hx263_0, hx264_0, hx265_0, hx266_0⟩ (fun hHeld => ?_); refine with_tabW spec_l2Block.tab14 spec_l2Block.bits14 (fun HT_ HW_ => ?_)
      generalize w32.drew = w33 at HO_7 HO_8 HB hx262_0 hx263_0 hx264_0 hx265_0 hx266_0 hHeld ⊢
      refine p_ 0 101 HT_ ?_; refine p_ 1 102 HT_ ?_; refine p_ 2 103 HT_ ?_; refine p_ 3 104 HT_ ?_; refine p_ 4 105 HT_ ?_; refine p_ 5 106 HT_ ?_; refine p_ 6 107 HT_ ?_; refine p_ 8 109 HT_ ?_; refine p_ 9 110 HT_ ?_; refine p_ 11 112 HT_ ?_; refine p_ 12 113 HT_ ?_; refine p_ 14 115 HT_ ?_; refine p_ 17 118 HT_ ?_; refine p_ 18 119 HT_ ?_; refine p_ 19 120 HT_ ?_; refine p_ 21 122 HT_ ?_; refine p_ 22 123 HT_ ?_; refine k_ 7 108 HT_ HW_ hHeld ?_; refine k_ 10 111 HT_ HW_ hHeld ?_; refine k_ 13 114 HT_ HW_ hHeld ?_; refine p_ 15 116 HT_ ?_; refine p_ 16 117 HT_ ?_; refine k_ 20 121 HT_ HW_ hHeld ?_; refine k_ 23 124 HT_ HW_ hHeld ?_
      refine on_ 24 (some 125) (bq_ 25 1) HT_ (fun K hK => ?_)
      refine Kd.R_lit_step (Kd.int .i64) _ 3 ?hg (N := 125) ?hd (xs := ([Go.bits .and .i64 (wrap64 ((wrap64 ((wrap64 ((wrap64 ((wrap64 ((rd x8_1 7) + (Go.bits .xor .i64 (Go.bits .xor .i64 t246 t247) t248))) + (Go.bits .xor .i64 (Go.bits .and .i64 (rd x8_1 4) (rd x8_1 5)) (Go.bits .and .i64 (Go.bits .xor .i64 4294967295 (rd x8_1 4)) (rd x8_1 6))))) + (rd l2 x9_1))) + (rd t236 x9_1))) + (wrap64 ((Go.bits .xor .i64 (Go.bits .xor .i64 t255 t256) t257) + (Go.bits .xor .i64 (Go.bits .xor .i64 (Go.bits .and .i64 (rd x8_1 0) (rd x8_1 1)) (Go.bits .and .i64 (rd x8_1 0) (rd x8_1 2))) (Go.bits .and .i64 (rd x8_1 1) (rd x8_1 2))))))) 4294967295, rd x8_1 0, rd x8_1 1, rd x8_1 2, Go.bits .and .i64 (wrap64 ((rd x8_1 3) + (wrap64 ((wrap64 ((wrap64 ((wrap64 ((rd x8_1 7) + (Go.bits .xor .i64 (Go.bits .xor .i64 t246 t247) t248))) + (Go.bits .xor .i64 (Go.bits .and .i64 (rd x8_1 4) (rd x8_1 5)) (Go.bits .and .i64 (Go.bits .xor .i64 4294967295 (rd x8_1 4)) (rd x8_1 6))))) + (rd l2 x9_1))) + (rd t236 x9_1))))) 4294967295, rd x8_1 4, rd x8_1 5, rd x8_1 6] : List Int)) (inner := [.int .i64 (Go.bits .and .i64 (wrap64 ((wrap64 ((wrap64 ((wrap64 ((wrap64 ((rd x8_1 7) + (Go.bits .xor .i64 (Go.bits .xor .i64 t246 t247) t248))) + (Go.bits .xor .i64 (Go.bits .and .i64 (rd x8_1 4) (rd x8_1 5)) (Go.bits .and .i64 (Go.bits .xor .i64 4294967295 (rd x8_1 4)) (rd x8_1 6))))) + (rd l2 x9_1))) + (rd t236 x9_1))) + (wrap64 ((Go.bits .xor .i64 (Go.bits .xor .i64 t255 t256) t257) + (Go.bits .xor .i64 (Go.bits .xor .i64 (Go.bits .and .i64 (rd x8_1 0) (rd x8_1 1)) (Go.bits .and .i64 (rd x8_1 0) (rd x8_1 2))) (Go.bits .and .i64 (rd x8_1 1) (rd x8_1 2))))))) 4294967295), .int .i64 (rd x8_1 0), .int .i64 (rd x8_1 1), .int .i64 (rd x8_1 2), .int .i64 (Go.bits .and .i64 (wrap64 ((rd x8_1 3) + (wrap64 ((wrap64 ((wrap64 ((wrap64 ((rd x8_1 7) + (Go.bits .xor .i64 (Go.bits .xor .i64 t246 t247) t248))) + (Go.bits .xor .i64 (Go.bits .and .i64 (rd x8_1 4) (rd x8_1 5)) (Go.bits .and .i64 (Go.bits .xor .i64 4294967295 (rd x8_1 4)) (rd x8_1 6))))) + (rd l2 x9_1))) + (rd t236 x9_1))))) 4294967295), .int .i64 (rd x8_1 4), .int .i64 (rd x8_1 5), .int .i64 (rd x8_1 6)]) (ok := fun _ => True) (okp := fun _ => True) ?hr ?hp (fun _ hk => hk) trivial (Below.refl _ _) (Nat.le_refl _) (by simp) ?_; (case hd => rfl); (case hg => rfl); (case hr => first | (go_simp; done) | (go_simp; rfl)); (case hp => exact (Reps.one (show Kd.M (Kd.int .i64) _ _ _ (Go.bits .and .i64 (wrap64 ((wrap64 ((wrap64 ((wrap64 ((wrap64 ((rd x8_1 7) + (Go.bits .xor .i64 (Go.bits .xor .i64 t246 t247) t248))) + (Go.bits .xor .i64 (Go.bits .and .i64 (rd x8_1 4) (rd x8_1 5)) (Go.bits .and .i64 (Go.bits .xor .i64 4294967295 (rd x8_1 4)) (rd x8_1 6))))) + (rd l2 x9_1))) + (rd t236 x9_1))) + (wrap64 ((Go.bits .xor .i64 (Go.bits .xor .i64 t255 t256) t257) + (Go.bits .xor .i64 (Go.bits .xor .i64 (Go.bits .and .i64 (rd x8_1 0) (rd x8_1 1)) (Go.bits .and .i64 (rd x8_1 0) (rd x8_1 2))) (Go.bits .and .i64 (rd x8_1 1) (rd x8_1 2))))))) 4294967295) [.int .i64 (Go.bits .and .i64 (wrap64 ((wrap64 ((wrap64 ((wrap64 ((wrap64 ((rd x8_1 7) + (Go.bits .xor .i64 (Go.bits .xor .i64 t246 t247) t248))) + (Go.bits .xor .i64 (Go.bits .and .i64 (rd x8_1 4) (rd x8_1 5)) (Go.bits .and .i64 (Go.bits .xor .i64 4294967295 (rd x8_1 4)) (rd x8_1 6))))) + (rd l2 x9_1))) + (rd t236 x9_1))) + (wrap64 ((Go.bits .xor .i64 (Go.bits .xor .i64 t255 t256) t257) + (Go.bits .xor .i64 (Go.bits .xor .i64 (Go.bits .and .i64 (rd x8_1 0) (rd x8_1 1)) (Go.bits .and .i64 (rd x8_1 0) (rd x8_1 2))) (Go.bits .and .i64 (rd x8_1 1) (rd x8_1 2))))))) 4294967295)] from rfl) (Reps.one (show Kd.M (Kd.int .i64) _ _ _ (rd x8_1 0) [.int .i64 (rd x8_1 0)] from rfl) (Reps.one (show Kd.M (Kd.int .i64) _ _ _ (rd x8_1 1) [.int .i64 (rd x8_1 1)] from rfl) (Reps.one (show Kd.M (Kd.int .i64) _ _ _ (rd x8_1 2) [.int .i64 (rd x8_1 2)] from rfl) (Reps.one (show Kd.M (Kd.int .i64) _ _ _ (Go.bits .and .i64 (wrap64 ((rd x8_1 3) + (wrap64 ((wrap64 ((wrap64 ((wrap64 ((rd x8_1 7) + (Go.bits .xor .i64 (Go.bits .xor .i64 t246 t247) t248))) + (Go.bits .xor .i64 (Go.bits .and .i64 (rd x8_1 4) (rd x8_1 5)) (Go.bits .and .i64 (Go.bits .xor .i64 4294967295 (rd x8_1 4)) (rd x8_1 6))))) + (rd l2 x9_1))) + (rd t236 x9_1))))) 4294967295) [.int .i64 (Go.bits .and .i64 (wrap64 ((rd x8_1 3) + (wrap64 ((wrap64 ((wrap64 ((wrap64 ((rd x8_1 7) + (Go.bits .xor .i64 (Go.bits .xor .i64 t246 t247) t248))) + (Go.bits .xor .i64 (Go.bits .and .i64 (rd x8_1 4) (rd x8_1 5)) (Go.bits .and .i64 (Go.bits .xor .i64 4294967295 (rd x8_1 4)) (rd x8_1 6))))) + (rd l2 x9_1))) + (rd t236 x9_1))))) 4294967295)] from rfl) (Reps.one (show Kd.M (Kd.int .i64) _ _ _ (rd x8_1 4) [.int .i64 (rd x8_1 4)] from rfl) (Reps.one (show Kd.M (Kd.int .i64) _ _ _ (rd x8_1 5) [.int .i64 (rd x8_1 5)] from rfl) (Reps.one (show Kd.M (Kd.int .i64) _ _ _ (rd x8_1 6) [.int .i64 (rd x8_1 6)] from rfl) (Reps.none _ _))))))))))
      intro v268 w34 ho35 hb hg_ hnew_
      have HS0_ := (hb.cell (World.block_lt_of_cell? _ _ (hHeld.1))).trans (hHeld.1)
      have HS1_ := (hb.cell (World.block_lt_of_cell? _ _ (hHeld.2.1))).trans (hHeld.2.1)
      have HS2_ := (hb.cell (World.block_lt_of_cell? _ _ (hHeld.2.2.1))).trans (hHeld.2.2.1)
      have HS3_ := (hb.cell (World.block_lt_of_cell? _ _ (hHeld.2.2.2.1))).trans (hHeld.2.2.2.1)
      have HS4_ := (hb.cell (World.block_lt_of_cell? _ _ (hHeld.2.2.2.2))).trans (hHeld.2.2.2.2)
      clear hg_ hnew_
      (first | rw [← Ny267.out] at ho35 | (simp only [Int.reduceToNat] at ho35; rw [← Ny267.out] at ho35))
      have HO269 := q_ (Kd.R_lower (Kd.R_new' (Kd.R_new' ho35 (Kd.R_lt (kr_ HO_7.out))) (Kd.R_lt (kr_ HO_8.out))) (below_size (be_ HB.out)))
      replace HO_7 := q_ (Kd.R_elder' (kr_ HO_7.out) (Kd.R_base ho35) hb)
      replace HO_8 := q_ (Kd.R_elder' (kr_ HO_8.out) (Kd.R_base ho35) hb)
      replace HB := q_ (below_step (be_ HB.out) hb)
      clear hb ho35
      refine hK.out _ _ ⟨HS0_, HS1_, HS2_, HS3_, HS4_⟩ (fun hHeld => ?_)
      clear hK K
      refine nm_ ?_
      refine p_ 25 8 HT_ ?_
      refine done_ (done_of HT_.out (by kernel_rfl)) ?_
      try go_wp2
      go_roundg k1
      case measure => have := HK1.out; omega
      case rel => exact ⟨(y267), (wrap64 (x9_1 + 1)), rs_, H', ⟨by have := HK1.out; omega⟩, ⟨by (with_reducible repeat (first | apply Kd.R_alloc | apply Kd.R_drewN | apply Kd.R_drew)); exact Kd.R_mono HO_7.out (fun _ hk => hk.2)⟩, ⟨by (with_reducible repeat (first | apply Kd.R_alloc | apply Kd.R_drewN | apply Kd.R_drew)); exact Kd.R_mono HO269.out (fun _ hk => hk.1.2)⟩, ⟨be_ HB.out⟩⟩
    · rw [if_neg c10] at H
      have c10b0 := decide_eq_false c10
      clear c10
      have H' := Aside0.mk H
      clear H
      go_wp2
      go_loopg [18] k1 (fun kq v18 w' => ∃ (x8_2 : List Int) (x18_2 : Int), v18 = .int .i64 x18_2 ∧ Aside0 (spec_l2Block.l1 kq l0 x8_2 x18_2 = some r) ∧ Aside0 (kq ≤ k1) ∧ Aside0 (Kd.R (Kd.int .i64) 3 w' w.heap.size (fun _ => True) u8 x8_2) ∧ Aside0 (Below w.heap.size w w'))
      case atStart => exact ⟨(x8_1), (0), rs_, H', ⟨Nat.le_refl _⟩, ⟨by (with_reducible repeat (first | apply Kd.R_alloc | apply Kd.R_drewN | apply Kd.R_drew)); exact Kd.R_mono HO_8.out (fun _ hk => trivial)⟩, ⟨be_ HB.out⟩⟩
      case round =>
       clear H'
       try clear c1
       try clear c2
       try clear p2
       try clear q2
       try clear hx2
       try clear qi2
       try clear p6
       try clear c10
       try clear c10b0
       try clear c11
       try clear c15
       try clear c16
       try clear c17
       try clear c18
       try clear c19
       try clear c20
       try clear c21
       try clear c25
       try clear p25
       try clear q25
       try clear hx25
       try clear qi25
       try clear c26
       try clear p26
       try clear q26
       try clear hx26
       try clear qi26
       try clear c27
       try clear hx254_0
       try clear hx258_0
       try clear hx259_0
       try clear hx260_0
       try clear hx261_0
       try clear hx262_0
       try clear hx263_0
       try clear hx264_0
       try clear hx265_0
       try clear hx266_0
       try clear p254
       try clear p258
       try clear p259
       try clear p260
       try clear p261
       try clear p262
       try clear p263
       try clear p264
       try clear p265
       try clear p266
       try clear q254
       try clear q258
       try clear q259
       try clear q260
       try clear q261
       try clear q262
       try clear q263
       try clear q264
       try clear q265
       try clear q266
       obtain ⟨x8_2, x18_2, rfl, HA, HK2, HO_8, HB⟩ := hrel
       cases gk with
       | zero => exact absurd HA.out (by simp [spec_l2Block.l1])
       | succ k2 =>
        have H := HA.out
        clear HA
        simp only [spec_l2Block.l1] at H
        by_cases c36 : x18_2 < 8
        · rw [if_pos c36] at H
          have c36b0 := decide_eq_true c36
          clear c36
          obtain ⟨c37, H⟩ := ip_ H
          have c37b0 : decide (0 ≤ x18_2) = true := decide_eq_true c37
          clear c37
          obtain ⟨c38, H⟩ := ip_ H
          have c38b0 : decide (x18_2 < (x8_2.length : Int)) = true := decide_eq_true c38
          clear c38
          obtain ⟨c39, H⟩ := ip_ H
          have c39b0 : decide (x18_2 < (l0.length : Int)) = true := decide_eq_true c39
          clear c39
          obtain ⟨y272, hy272⟩ : ∃ y_ : List Int, y_ = (x8_2.set (x18_2 : Int).toNat (Go.bits .and .i64 (wrap64 ((rd x8_2 x18_2) + (rd l0 x18_2))) 4294967295)) := ⟨_, rfl⟩
          replace H : (spec_l2Block.l1 k2 l0 y272 (wrap64 (x18_2 + 1))) = some r := ry_ hy272 H
          have Ny272 := Aside0.mk hy272
          clear hy272
          have H' := Aside0.mk H
          clear H
          try go_wp2
          replace HO_8 := q_ (Kd.R_drew HO_8.out)
          replace HB := q_ (below_drew1 HB.out)
          obtain ⟨Ao42, co42, eo42⟩ := Kd.R_slice HO_8.out
          (first | subst eo42 | (injection eo42 with f1_ f2_ f3_; have f4_ := f1_.symm; have f5_ := f3_.symm; clear f1_ f2_ f3_; subst f4_; subst f5_))
          have p270 : 0 ≤ (x18_2 : Int) := od_
          have q270 : x18_2 < (x8_2.length : Int) := od_
          obtain ⟨ad270, e270, hx270_0⟩ := Kd.at_int (Kd.R_reads' HO_8.out).2.2 x18_2 p270 q270
          cases e270
          replace p270 := eq_true p270
          replace q270 := eq_true q270
          have p271 : 0 ≤ (x18_2 : Int) := od_
          have q271 : x18_2 < (l0.length : Int) := od_
          obtain ⟨ad271, e271, hx271_0⟩ := Kd.at_int HR0.out x18_2 p271 q271
          have hw271_0 := hx271_0
          cases e271
          replace hx271_0 := hc_ HB.out hx271_0
          replace p271 := eq_true p271
          replace q271 := eq_true q271
          have p40 : 0 ≤ (x18_2 : Int) := od_
          have q40 : (x18_2 : Int) < ((x8_2.length : Int) : Int) := od_
          obtain ⟨go40, co40, eo40, gb40, gl40, cl40, HG40⟩ := Kd.R_form HO_8.out (by omega)
          (first | cases eo40 | (injection eo40 with ea_ en_ ec_; (first | subst ea_ | (injection ea_ with ea_; subst ea_)); subst ec_; clear en_))
          have GB40 := Aside0.mk gb40
          have GG40 := Aside0.mk HG40
          clear gb40 gl40 HG40
          (first | simp only [add_plain] at hx270_0 | skip)
          obtain ⟨hx40_0, hf40_0⟩ := Kd.R_celln 0 HO_8.out (x18_2 : Int) p40 q40
          replace p40 := eq_true p40
          replace q40 := eq_true q40
          have HP43 := Kd.R_putn HO_8.out (x18_2 : Int) (Go.bits .and .i64 (wrap64 ((rd x8_2 x18_2) + (rd l0 x18_2))) 4294967295)
          rw [← Ny272.out] at HP43
          have HQ43 := Aside0.mk HP43
          clear HP43
          refine start_ (n := 14) (S := fun w' => w'.cell? ⟨go40, (x18_2).toNat, none⟩ = some (.int .i64 (rd x8_2 x18_2)) ∧ w'.cell? (ad271.add (x18_2).toNat) = some (.int .i64 (rd l0 x18_2))) (ds := [13]) (bq_ 0 14) (by kernel_rfl) rfl rfl ⟨hx270_0, (hc_ HB.out hw271_0)⟩ (fun hHeld => ?_); refine with_tabW spec_l2Block.tab18 spec_l2Block.bits18 (fun HT_ HW_ => ?_)
          generalize wr.drew = w41 at HO_8 HB GG40 HQ43 hf40_0 hx270_0 hx271_0 hx40_0 hHeld ⊢
          refine p_ 0 130 HT_ ?_; refine p_ 1 131 HT_ ?_; refine p_ 2 132 HT_ ?_; refine p_ 3 133 HT_ ?_; refine p_ 4 134 HT_ ?_; refine p_ 6 136 HT_ ?_; refine p_ 7 137 HT_ ?_; refine p_ 8 138 HT_ ?_; refine k_ 5 135 HT_ HW_ hHeld ?_; refine k_ 9 139 HT_ HW_ hHeld ?_; refine p_ 10 140 HT_ ?_; refine p_ 11 141 HT_ ?_; refine p_ 12 142 HT_ ?_
          refine last_ (i := 13) (N := none) (bq_ 14 0) rfl rfl (one_of HT_.out (by kernel_rfl)) (by decide) (fun K hK => ?_)
          refine skip_ (w1 := ?_) (by rfl) rfl ?_ ?_
          rotate_left
          · go_simp
            rfl
          refine hK.out _ _ ?_
          clear hK K
          refine done_ (done_of HT_.out (by kernel_rfl)) ?_
          try go_wp2
          go_roundg k2
          case measure => have := HK1.out; have := HK2.out; omega
          case rel => exact ⟨(y272), (wrap64 (x18_2 + 1)), rs_, H', ⟨by have := HK1.out; have := HK2.out; omega⟩, ⟨by (with_reducible repeat (first | apply Kd.R_alloc | apply Kd.R_drewN | apply Kd.R_drew)); exact HQ43.out⟩, ⟨bs_ HB.out GB40.out⟩⟩
        · rw [if_neg c36] at H
          have c36b0 := decide_eq_false c36
          clear c36
          obtain rfl := Option.some.inj H
          go_wp2
          go_ret
          exact ⟨_, rf_, by (with_reducible repeat (first | apply Kd.R_alloc | apply Kd.R_drewN | apply Kd.R_drew)); exact HO_8.out, be_ HB.out⟩

end Go.Proofs.Ythkaifddpjjmaaa.P
