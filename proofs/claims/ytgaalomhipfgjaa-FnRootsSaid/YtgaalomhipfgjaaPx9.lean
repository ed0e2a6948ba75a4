-- Written by wip/xp/xp.py over the kit's print; Lean checks it.
import Derived.Test.YtgaalomhipfgjaaPx0
import Derived.Test.YtgaalomhipfgjaaPx2
import Derived.Test.YtgaalomhipfgjaaPx3
import Derived.Test.YtgaalomhipfgjaaPx4
namespace Go.Proofs.Ytgaalomhipfgjaa.P
open Go.RowKit Go.Proofs.YtgaalomhipfgjaaW.PrintWords Go.Proofs.YtgaalomhipfgjaaW.PrintLast Go.Proofs.YtgaalomhipfgjaaW.PrintMore
attribute [local go_sem] max2_int min2_int max_two min_two max_three min_three max_four min_four   -- for this text's walks alone
set_option linter.unusedVariables false
set_option linter.unusedSimpArgs false

/-! ###  impl_isPlace: function 54 -/
def impl_isPlace.f (a0 : Int) (a1 : Int) : Option (Bool) := (impl_inRange.f a1 1 60).bind fun t101 => (if t101 = true then ((impl_inRange.f a0 0 (wrap64 (a1 - 1))).bind fun t102 => (some t102)) else (some false))
set_option maxHeartbeats 8000000 in
set_option maxRecDepth 100000 in
theorem impl_isPlace.calls (a0 : Int) (a1 : Int) (r : Bool) (w : World) (h : impl_isPlace.f a0 a1 = some r) :
  Calls Try.prog 54 #[.int .i64 a0, .int .i64 a1] w fun e w' => e = .returned (.bool r) ∧ Drawn0 w w' := by
  have H : ((impl_inRange.f a1 1 60).bind fun t101 => (if t101 = true then ((impl_inRange.f a0 0 (wrap64 (a1 - 1))).bind fun t102 => (some t102)) else (some false))) = some r := h
  clear h
  replace H := Option.bind_eq_some_iff.mp H
  obtain ⟨t101, A30, H⟩ := H
  have A3 := Aside0.mk A30
  clear A30
  by_cases c4 : t101 = true
  · subst c4
    have H1 : ((impl_inRange.f a0 0 (wrap64 (a1 - 1))).bind fun t102 => (some t102)) = some r := by rw [if_pos rfl] at H; exact H
    clear H
    have H := H1
    clear H1
    replace H := Option.bind_eq_some_iff.mp H
    obtain ⟨t102, A50, H⟩ := H
    have A5 := Aside0.mk A50
    clear A50
    obtain rfl := Option.some.inj H
    go_enter Try.func54, Try.ntmps54
    go_wp2_with (first | ((with_reducible refine gate_callee (f := 66) rfl ?_); refine goesL_ (some 6) rfl rfl Try.func66 (by kernel_rfl) rfl #[.int .i64 a1, .int .i64 1, .int .i64 60] rfl al_ ?_; (with_reducible refine (impl_inRange.calls a1 1 60 true _ A3.out).mono ?_); rintro e w' ⟨rfl, ⟨nd, rfl⟩⟩; refine ⟨_, rfl, ?_⟩) | (go_at_call 66; (with_reducible refine (impl_inRange.calls a0 0 (wrap64 (a1 - 1)) t102 _ A5.out).mono ?_); rintro e w' ⟨rfl, ⟨nd, rfl⟩⟩))
    go_ret
    exact ⟨by first | rfl | (simp; done) | (simp [*]; done), by repeat (first | exact Drawn0.refl _ | apply Drawn0.step)⟩
  · replace c4 := Bool.eq_false_iff.mpr c4
    subst c4
    have H1 : (some false) = some r := by rw [if_neg (show ¬ (false = true) by decide)] at H; exact H
    clear H
    have H := H1
    clear H1
    obtain rfl := Option.some.inj H
    go_enter Try.func54, Try.ntmps54
    go_wp2_with (first | ((with_reducible refine gate_callee (f := 66) rfl ?_); refine goesL_ (some 6) rfl rfl Try.func66 (by kernel_rfl) rfl #[.int .i64 a1, .int .i64 1, .int .i64 60] rfl al_ ?_; (with_reducible refine (impl_inRange.calls a1 1 60 false _ A3.out).mono ?_); rintro e w' ⟨rfl, ⟨nd, rfl⟩⟩; refine ⟨_, rfl, ?_⟩))
    go_ret
    exact ⟨by first | rfl | (simp; done) | (simp [*]; done), by repeat (first | exact Drawn0.refl _ | apply Drawn0.step)⟩

/-! ###  impl_rootBytes: function 59 -/
def impl_rootBytes.f (k : Nat) (a0 : Int) (a1 : ByteArray) : Option (List Int) := (impl_putNum.f k (([2] : List Int)) a0).bind fun t121 => (if t121.length + a1.size < 140737488355328 then (some (t121 ++ bytesOf a1)) else (none))
set_option maxHeartbeats 8000000 in
set_option maxRecDepth 100000 in
theorem impl_rootBytes.calls (k : Nat) (a0 : Int) (a1 : ByteArray) (r : List Int) (w : World) (h : impl_rootBytes.f k a0 a1 = some r) :
  Calls Try.prog 59 #[.int .i64 a0, .string a1] w fun e w' => ∃ v0_ : Value, e = .returned (v0_) ∧ Kd.R (Kd.int .u8) 5 w' w.heap.size (fun _ => True) v0_ r ∧ Below w.heap.size w w' := by
  have HB := Aside0.mk (Below.refl w.heap.size w)
  have H : ((impl_putNum.f k (([2] : List Int)) a0).bind fun t121 => (if t121.length + a1.size < 140737488355328 then (some (t121 ++ bytesOf a1)) else (none))) = some r := h
  clear h
  obtain ⟨y118, hy118⟩ : ∃ y_ : List Int, y_ = (([2] : List Int)) := ⟨_, rfl⟩
  replace H : ((impl_putNum.f k y118 a0).bind fun t121 => (if t121.length + a1.size < 140737488355328 then (some (t121 ++ bytesOf a1)) else (none))) = some r := by first | (rw [hy118]; with_reducible exact H) | (have H2_ := (Option.bind_some _ _).symm.trans H; rw [hy118]; with_reducible exact H2_) | (have H2_ := (Option.bind_some _ _).symm.trans H; with_reducible exact H2_) | with_reducible exact H | (rw [hy118]; exact H) | exact H
  have Ny118 := Aside0.mk hy118
  clear hy118
  replace H := Option.bind_eq_some_iff.mp H
  obtain ⟨t121, A30, H⟩ := H
  have A3 := Aside0.mk A30
  clear A30
  by_cases c4 : t121.length + a1.size < 140737488355328
  rotate_left
  · rw [if_neg c4] at H; exact absurd H (by simp)
  rw [if_pos c4] at H
  have LMc4 := Aside0.mk c4
  clear c4
  obtain ⟨y124, hy124⟩ : ∃ y_ : List Int, y_ = (t121 ++ bytesOf a1) := ⟨_, rfl⟩
  replace H : (some y124) = some r := by first | (rw [hy124]; with_reducible exact H) | (have H2_ := (Option.bind_some _ _).symm.trans H; rw [hy124]; with_reducible exact H2_) | (have H2_ := (Option.bind_some _ _).symm.trans H; with_reducible exact H2_) | with_reducible exact H | (rw [hy124]; exact H) | exact H
  have Ny124 := Aside0.mk hy124
  clear hy124
  obtain rfl := Option.some.inj H
  go_enter Try.func59, Try.ntmps59
  go_wp2_with (first | ((with_reducible refine gate_dst (N := 5) rfl ?_); refine Kd.R_lit (Kd.int .u8) _ 5 ?hg (N := 5) ?hd (xs := ([2] : List Int)) (inner := [.int .u8 2]) (ok := fun _ => True) (okp := fun _ => True) ?hr ?hp (fun _ hk => hk) trivial (Below.refl _ _) (Nat.le_refl _) (by simp) ?_; (case hd => rfl); (case hg => rfl); (case hr => first | (go_simp; done) | (go_simp; rfl)); (case hp => exact (Reps.one (show Kd.M (Kd.int .u8) _ _ _ 2 [.int .u8 2] from rfl) (Reps.none _ _))); intro v119 w5 ho6 hb hg_ hnew_; clear hg_ hnew_; (first | rw [← Ny118.out] at ho6 | (simp only [Int.reduceToNat] at ho6; rw [← Ny118.out] at ho6)); have n0_ := Aside0.mk (Kd.R_lower ho6 (below_size (be_ HB.out))); have n1_ := Aside0.mk (below_step (be_ HB.out) hb); clear HB; have HO120 := n0_; have HB := n1_; clear n0_ n1_; clear hb ho6; obtain ⟨Ao7, co7, eo7⟩ := Kd.R_slice HO120.out; subst eo7) | ((with_reducible refine gate_callee (f := 101) rfl ?_); refine goesL_ (some 7) rfl rfl Try.func101 (by kernel_rfl) rfl #[.slice Ao7 y118.length co7, .int .i64 a0] rfl al_ ?_; (with_reducible refine (impl_putNum.calls k (fun k_ => some k_ = (.slice Ao7 y118.length co7 : Value).ownBlock) (.slice Ao7 y118.length co7) y118 a0 t121 w _ ?side1 ?side2 A3.out).mono ?_); (case side1 => repeat (first | (with_reducible first | exact HB.out | apply below_alloc | apply pw_below_drewN | apply below_drew1) | exact HB.out)); (case side2 => exact Kd.R_tight rfl HO120.out); rintro e w8 ⟨v122, rfl, ho0, hb, hkp⟩; refine ⟨_, rfl, ?_⟩; have n0_ := Aside0.mk (Kd.R_mono (ok' := fun k_ => True) ho0 (fun k_ hk_ => trivial)); have n1_ := Aside0.mk (hb); clear HB; clear HO120; have HO123 := n0_; have HB := n1_; clear n0_ n1_; (try clear hb); (try clear hkp); (try clear ho0)) | ((with_reducible refine gate_builtin (b := .append) (xs := #[.tmp 7, _]) rfl ?_); at_builtin; refine Kd.R_append_str (w0 := w) w.heap.size rfl (.tmp 7) _ 22 9 5 rfl Try.underlying22 Try.underlying9 info5 v122 t121 a1 (fun _ => True) rfl rfl ?aF ?aO ?aB ?aS ?aL ?_; (case aB => exact (be_ HB.out)); (case aF => exact (fun _ _ => trivial)); (case aO => exact (kr_ HO123.out)); (case aS => exact (below_size (be_ HB.out))); (case aL => have := LMc4.out; omega); intro v125 w9 ho hb hg hat; rw [← Ny124.out] at ho; have n0_ := Aside0.mk (hb); have n1_ := Aside0.mk (ho); clear HB; clear HO123; have HB := n0_; have HO126 := n1_; clear n0_ n1_; clear ho hb hg hat))
  go_ret
  exact ⟨_, by first | rfl | (simp [errW_none, errW_some] <;> rfl) | (simp [*, errW_none, errW_some] <;> rfl), by (with_reducible repeat (first | apply Kd.R_alloc | apply Kd.R_drewN | apply Kd.R_drew)); exact HO126.out, be_ HB.out⟩

/-! ###  impl_climb: function 99 -/
mutual
def impl_climb.j0 : Nat → Int → Int → List ByteArray → Int → Bool → ByteArray → ByteArray → Option ((List (List Int)) × Bool)
  | 0, _, _, _, _, _, _, _ => none
  | k + 1, x1, x2, x3, x10, x12, x165000, x165001 => if 0 ≤ x10 then (if x10 ≤ (x3.length : Int) then ((impl_climb.f k x165000 x165001 x1 x2 (x3.take (x10 : Int).toNat)).bind fun bt173 => (if bt173.2 = true then (if 0 ≤ (wrap64 ((bt173.1.length : Int) - 1)) then (if (wrap64 ((bt173.1.length : Int) - 1)) < (bt173.1.length : Int) then ((impl_Digest.f k (rd_L3 bt173.1 (wrap64 ((bt173.1.length : Int) - 1)))).bind fun t178 => (if x12 = true then (if x10 < (x3.length : Int) then ((impl_nodeBytes.f (rdOf ByteArray.empty x3 x10) t178).bind fun t180 => (if bt173.1.length < 5864062014805 then (some ((bt173.1 ++ [t180]), true)) else (none))) else (none)) else (if x10 < (x3.length : Int) then ((impl_nodeBytes.f t178 (rdOf ByteArray.empty x3 x10)).bind fun t187 => (if bt173.1.length < 5864062014805 then (some ((bt173.1 ++ [t187]), true)) else (none))) else (none)))) else (none)) else (none)) else (some (([] : List (List Int)), false)))) else (none)) else (none)
def impl_climb.f : Nat → ByteArray → ByteArray → Int → Int → List ByteArray → Option ((List (List Int)) × Bool)
  | 0, _, _, _, _, _ => none
  | k + 1, a0_0, a0_1, a1, a2, l3 => if a2 = 1 then ((impl_leafBytes.f k a0_0 a0_1).bind fun t165 => (some ((([t165] : List (List Int))), ((l3.length : Int) == 0)))) else (if (wrap64 ((l3.length : Int) - 1)) < 0 then (some (([] : List (List Int)), false)) else ((impl_half.f k a2).bind fun t171 => (if a1 ≥ t171 then (impl_climb.j0 k (wrap64 (a1 - t171)) (wrap64 (a2 - t171)) l3 (wrap64 ((l3.length : Int) - 1)) (decide (a1 ≥ t171)) a0_0 a0_1) else (impl_climb.j0 k a1 t171 l3 (wrap64 ((l3.length : Int) - 1)) (decide (a1 ≥ t171)) a0_0 a0_1))))
end
def impl_climb.T11 : Bool × List (List Nat × List Nat) := (true, [([], []), ([], []), ([], []), ([], []), ([], []), ([3, 4], [3, 4]), ([0, 1, 2, 5], [0, 1, 2, 5]), ([6], [6]), ([7], [7]), ([7], [7]), ([8, 6, 0, 1, 2, 3, 4, 5, 6, 7, 8], [8]), ([9, 10, 0, 1, 2, 3, 4, 5, 6, 7, 8, 9, 10], [9])])
def impl_climb.B11 : List Nat := [0, 0, 0, 0, 0, 24, 63, 127, 255, 255, 511, 2047]
theorem impl_climb.tab11 : rtab .any (opsOf Try.f99 11) = impl_climb.T11 := by kernel_rfl
theorem impl_climb.bits11 : waitsOk impl_climb.T11.2 impl_climb.B11 = true := by kernel_rfl
set_option maxHeartbeats 8000000 in
set_option maxRecDepth 100000 in
theorem impl_climb.calls (k : Nat) : ∀ (a0_0 : ByteArray) (a0_1 : ByteArray) (a1 : Int) (a2 : Int) (A3 : Option Addr) (c3 : Nat) (l3 : List ByteArray) (r1 : List (List Int)) (r2 : Bool) (w : World) (hr3 : Kd.C Kd.string w A3 l3.length l3) (hc3 : l3.length ≤ c3) (h : impl_climb.f k a0_0 a0_1 a1 a2 l3 = some (r1, r2)),
  Calls Try.prog 99 #[.agg #[.string a0_0, .string a0_1], .int .i64 a1, .int .i64 a2, .slice A3 l3.length c3] w fun e w' => ∃ v0_ : Value, e = .returned (.tuple #[v0_, .bool r2]) ∧ Kd.N (Kd.slice 5 (Kd.int .u8)) 22 w' w.heap.size (fun k_ => (w.heap.size ≤ k_)) v0_ r1 ∧ Below w.heap.size w w' := by
  induction k using Nat.strongRecOn with
  | _ k ih =>
  intro a0_0 a0_1 a1 a2 A3 c3 l3 r1 r2 w hr3 hc3 h
  cases k with
  | zero => exact absurd h (by simp [impl_climb.f])
  | succ k =>
  simp only [impl_climb.f] at h
  have hu26 := Try.underlying26
  have HR3 := Aside0.mk hr3
  have HC3 := Aside0.mk hc3
  clear hr3 hc3
  have HB := Aside0.mk (Below.refl w.heap.size w)
  have H : (if a2 = 1 then ((impl_leafBytes.f k a0_0 a0_1).bind fun t165 => (some ((([t165] : List (List Int))), ((l3.length : Int) == 0)))) else (if (wrap64 ((l3.length : Int) - 1)) < 0 then (some (([] : List (List Int)), false)) else ((impl_half.f k a2).bind fun t171 => (if a1 ≥ t171 then (impl_climb.j0 k (wrap64 (a1 - t171)) (wrap64 (a2 - t171)) l3 (wrap64 ((l3.length : Int) - 1)) (decide (a1 ≥ t171)) a0_0 a0_1) else (impl_climb.j0 k a1 t171 l3 (wrap64 ((l3.length : Int) - 1)) (decide (a1 ≥ t171)) a0_0 a0_1))))) = some (r1, r2) := h
  clear h
  by_cases c5 : a2 = 1
  · rw [if_pos c5] at H
    have c5b0 : (a2 == 1) = true := beq_iff_eq.mpr c5
    have c5b1 : (a2 != 1) = false := bne_eq_false_iff_eq.mpr c5
    clear c5
    replace H := Option.bind_eq_some_iff.mp H
    obtain ⟨t165, A60, H⟩ := H
    have A6 := Aside0.mk A60
    clear A60
    obtain ⟨y168, hy168⟩ : ∃ y_ : List (List Int), y_ = (([t165] : List (List Int))) := ⟨_, rfl⟩
    replace H : (some (y168, ((l3.length : Int) == 0))) = some (r1, r2) := by first | (rw [hy168]; with_reducible exact H) | (have H2_ := (Option.bind_some _ _).symm.trans H; rw [hy168]; with_reducible exact H2_) | (have H2_ := (Option.bind_some _ _).symm.trans H; with_reducible exact H2_) | with_reducible exact H | (rw [hy168]; exact H) | exact H
    have Ny168 := Aside0.mk hy168
    clear hy168
    simp only [Option.some.injEq, Prod.mk.injEq] at H
    obtain ⟨rfl, rfl⟩ := H
    go_enter Try.func99, Try.ntmps99
    go_wp2_with (first | ((with_reducible refine gate_dst (N := 4) rfl ?_); refine box_event ?hg (N := 4) ?hd (cs := #[.string a0_0, .string a0_1]) (t := 26) ?hr ?_; (case hd => rfl); (case hg => rfl); (case hr => first | (go_simp; done) | (go_simp; rfl)); intro gb164 hg w7 hbox hb; have n0_ := Aside0.mk (below_step (be_ HB.out) hb); have n1_ := Aside0.mk (hbox); have n2_ := Aside0.mk ((by rw [hg]; exact (below_size (be_ HB.out)) : w.heap.size ≤ gb164)); have n3_ := Aside0.mk ((by rw [hg]; exact (below_size (be_ HB.out)) : w.heap.size ≤ gb164)); clear HB; have HB := n0_; have BK164 := n1_; have GW164 := n2_; have GE164 := n3_; clear n0_ n1_ n2_ n3_; clear hb hbox hg; have hcz8_0 : w7.cell? ⟨gb164, 0, none⟩ = some (.string a0_0) := (blk_cell BK164.out 0).trans rfl; have hcz8_1 : w7.cell? ⟨gb164, 1, none⟩ = some (.string a0_1) := (blk_cell BK164.out 1).trans rfl; have hfz8_0 := blk_frozen BK164.out 0; have hfz8_1 := blk_frozen BK164.out 1) | ((with_reducible refine gate_callee (f := 86) rfl ?_); refine goesL_ (some 19) rfl rfl Try.func86 (by kernel_rfl) rfl #[.agg #[.string a0_0, .string a0_1]] rfl al_ ?_; (with_reducible refine (impl_leafBytes.calls k a0_0 a0_1 t165 _ A6.out).mono ?_); rintro e w9 ⟨v166, rfl, ho0, hb⟩; refine ⟨_, rfl, ?_⟩; have n0_ := Aside0.mk (Kd.R_lower (Kd.R_newM (M := fun k_ => (w.heap.size ≤ k_)) ho0 (below_size (bs_ HB.out GE164.out)) (fun k_ h_ => h_)) (below_size (bs_ HB.out GE164.out))); have n1_ := Aside0.mk (blk_below (g := gb164) (o := .cells #[.string a0_0, .string a0_1] 26 (0, 0)) (bk_ BK164.out) hb); have n2_ := Aside0.mk (below_step (bs_ HB.out GE164.out) hb); clear BK164; clear HB; have HO167 := n0_; have BK164 := n1_; have HB := n2_; clear n0_ n1_ n2_; (try clear hb); (try clear hb2); (try clear hk); (try clear hi); (try clear ho0); obtain ⟨Ao10, co10, eo10⟩ := Kd.R_slice HO167.out; subst eo10) | ((with_reducible refine gate_dst (N := 20) rfl ?_); refine Kd.N_lit (Kd.slice 5 (Kd.int .u8)) _ 22 ?hg (N' := 20) ?hd (xs := ([t165] : List (List Int))) (inner := [.slice Ao10 t165.length co10]) (ok := (fun k_ => (w.heap.size ≤ k_) ∧ k_ ≠ gb164)) (okp := (fun k_ => (w.heap.size ≤ k_) ∧ k_ ≠ gb164)) ?hr ?hp (fun _ hk => hk) ((show ∀ k_, w9.heap.size ≤ k_ → (fun k_ => (w.heap.size ≤ k_) ∧ k_ ≠ gb164) k_ from fun k_ hk => ⟨(Nat.le_trans (below_size (bs_ HB.out GE164.out)) hk), Kd.freshB (g := gb164) (o := .cells #[.string a0_0, .string a0_1] 26 (0, 0)) (bk_ BK164.out) k_ hk⟩) _ (Nat.le_refl _)) (Below.refl _ _) (Nat.le_refl _) (by simp) ?_; (case hd => rfl); (case hg => rfl); (case hr => first | (go_simp; done) | (go_simp; rfl)); (case hp => exact (Reps.one (show Kd.FK (Kd.slice 5 (Kd.int .u8)) _ _ t165 [.slice Ao10 t165.length co10] from (Kd.FK_slice_mk (Kd.R_reads' (Kd.R_mono (ok' := (fun k_ => (w.heap.size ≤ k_) ∧ k_ ≠ gb164)) (Kd.R_types (HO167.out) BK164.out (by decide)) (fun k_ hk => ⟨hk.1.1, hk.2⟩))).2.1 (Kd.R_F (Kd.R_mono (ok' := (fun k_ => (w.heap.size ≤ k_) ∧ k_ ≠ gb164)) (Kd.R_types (HO167.out) BK164.out (by decide)) (fun k_ hk => ⟨hk.1.1, hk.2⟩))))) (Reps.none _ _))); intro v169 w11 ho12 hb hg_ hnew_; clear hg_ hnew_; (first | rw [← Ny168.out] at ho12 | (simp only [Int.reduceToNat] at ho12; rw [← Ny168.out] at ho12)); have n0_ := Aside0.mk (Kd.N_lower ho12 (below_size (bs_ HB.out GE164.out))); have n1_ := Aside0.mk (blk_below (g := gb164) (o := .cells #[.string a0_0, .string a0_1] 26 (0, 0)) (bk_ BK164.out) hb); have n2_ := Aside0.mk (below_step (bs_ HB.out GE164.out) hb); clear BK164; clear HB; clear HO167; have HO170 := n0_; have BK164 := n1_; have HB := n2_; clear n0_ n1_ n2_; clear hb ho12))
    go_ret2
    exact ⟨_, by first | rfl | (simp [errW_none, errW_some] <;> rfl) | (simp [*, errW_none, errW_some] <;> rfl), by (with_reducible repeat (first | apply Kd.N_alloc | apply Kd.N_drewN | apply Kd.N_drew)); exact Kd.N_mono HO170.out (fun _ hk => hk.1), bs_ HB.out GE164.out⟩
  · rw [if_neg c5] at H
    have c5b0 : (a2 == 1) = false := beq_eq_false_iff_ne.mpr c5
    have c5b1 : (a2 != 1) = true := bne_iff_ne.mpr c5
    by_cases c13 : (wrap64 ((l3.length : Int) - 1)) < 0
    · rw [if_pos c13] at H
      have c13b0 : decide ((wrap64 ((l3.length : Int) - 1)) < 0) = true := decide_eq_true c13
      clear c13
      simp only [Option.some.injEq, Prod.mk.injEq] at H
      obtain ⟨rfl, rfl⟩ := H
      go_enter Try.func99, Try.ntmps99
      go_wp2_with (first | ((with_reducible refine gate_dst (N := 4) rfl ?_); refine box_event ?hg (N := 4) ?hd (cs := #[.string a0_0, .string a0_1]) (t := 26) ?hr ?_; (case hd => rfl); (case hg => rfl); (case hr => first | (go_simp; done) | (go_simp; rfl)); intro gb164 hg w14 hbox hb; have n0_ := Aside0.mk (below_step (be_ HB.out) hb); have n1_ := Aside0.mk (hbox); have n2_ := Aside0.mk ((by rw [hg]; exact (below_size (be_ HB.out)) : w.heap.size ≤ gb164)); have n3_ := Aside0.mk ((by rw [hg]; exact (below_size (be_ HB.out)) : w.heap.size ≤ gb164)); clear HB; have HB := n0_; have BK164 := n1_; have GW164 := n2_; have GE164 := n3_; clear n0_ n1_ n2_ n3_; clear hb hbox hg))
      go_ret2
      exact ⟨_, by first | rfl | (simp [errW_none, errW_some] <;> rfl) | (simp [*, errW_none, errW_some] <;> rfl), by first | exact Kd.S_nil _ _ _ _ _ | exact Kd.N_nil _ _ _ _ _ | exact Kd.V_nil _ _ _ _ _ | exact Kd.Q_nil _ _ _ _ _ | exact Kd.R_nil _ _ _ _ _, bs_ HB.out GE164.out⟩
    · rw [if_neg c13] at H
      have c13b0 : decide ((wrap64 ((l3.length : Int) - 1)) < 0) = false := decide_eq_false c13
      clear c13
      replace H := Option.bind_eq_some_iff.mp H
      obtain ⟨t171, A150, H⟩ := H
      have A15 := Aside0.mk A150
      clear A150
      have HC16 := Aside0.mk H
      clear H
      go_enter Try.func99, Try.ntmps99
      go_upto_if 34 with (first | ((with_reducible refine gate_dst (N := 4) rfl ?_); refine box_event ?hg (N := 4) ?hd (cs := #[.string a0_0, .string a0_1]) (t := 26) ?hr ?_; (case hd => rfl); (case hg => rfl); (case hr => first | (go_simp; done) | (go_simp; rfl)); intro gb164 hg w17 hbox hb; have n0_ := Aside0.mk (below_step (be_ HB.out) hb); have n1_ := Aside0.mk (hbox); have n2_ := Aside0.mk ((by rw [hg]; exact (below_size (be_ HB.out)) : w.heap.size ≤ gb164)); have n3_ := Aside0.mk ((by rw [hg]; exact (below_size (be_ HB.out)) : w.heap.size ≤ gb164)); clear HB; have HB := n0_; have BK164 := n1_; have GW164 := n2_; have GE164 := n3_; clear n0_ n1_ n2_ n3_; clear hb hbox hg) | ((with_reducible refine gate_callee (f := 100) rfl ?_); refine goesL_ (some 30) rfl rfl Try.func100 (by kernel_rfl) rfl #[.int .i64 a2] rfl al_ ?_; (with_reducible refine (impl_half.calls k a2 t171 _ A15.out).mono ?_); rintro e w' ⟨rfl, ⟨nd, rfl⟩⟩; refine ⟨_, rfl, ?_⟩))
      (try simp only [Act.put, sa_, sz_, ss_])
      obtain ⟨bq_, hbq_⟩ : ∃ b_ : Bool, decide (t171 ≤ a1) = b_ := ⟨_, rfl⟩
      try rw [hbq_]
      have BQ_ := Aside0.mk hbq_
      clear hbq_
      go_cut [1, 2] (fun v1 v2 wc => ∃ (kq : Nat) (x1_15 : Int) (x2_15 : Int), v1 = .int .i64 x1_15 ∧ v2 = .int .i64 x2_15 ∧ Aside0 (impl_climb.j0 kq x1_15 x2_15 l3 (wrap64 ((l3.length : Int) - 1)) (decide (a1 ≥ t171)) a0_0 a0_1 = some (r1, r2)) ∧ Aside0 (kq ≤ k) ∧ Aside0 (wc.heap[gb164]? = some (.cells #[.string a0_0, .string a0_1] 26 (0, 0))) ∧ Aside0 (Below w.heap.size w wc))
      case first =>
       have H := HC16.out
       clear HC16
       by_cases c18 : a1 ≥ t171
       · rw [if_pos c18] at H
         have c18b0 : decide (t171 ≤ a1) = true := decide_eq_true c18
         obtain rfl : bq_ = true := BQ_.out.symm.trans c18b0
         clear c18
         (first | rw [c18b0] | (simp only [i64_w, i32_w]; rw [c18b0]) | skip)
         have H' := Aside0.mk H
         clear H
         go_wp2
         go_meet
         case rel => exact ⟨_, (wrap64 (a1 - t171)), (wrap64 (a2 - t171)), (by first | rfl | (simp; done) | (simp [*]; done)), (by first | rfl | (simp; done) | (simp [*]; done)), H', ⟨by first | omega | exact Nat.le_refl _⟩, ⟨by (with_reducible repeat (first | refine blk_drewN ?_ _ | refine blk_drew ?_ | refine blk_alloc ?_ _)); exact BK164.out⟩, ⟨bs_ HB.out GE164.out⟩⟩
       · rw [if_neg c18] at H
         have c18b0 : decide (t171 ≤ a1) = false := decide_eq_false c18
         obtain rfl : bq_ = false := BQ_.out.symm.trans c18b0
         clear c18
         (first | rw [c18b0] | (simp only [i64_w, i32_w]; rw [c18b0]) | skip)
         have H' := Aside0.mk H
         clear H
         go_wp2
         go_meet
         case rel => exact ⟨_, (a1), (t171), (by first | rfl | (simp; done) | (simp [*]; done)), (by first | rfl | (simp; done) | (simp [*]; done)), H', ⟨by first | omega | exact Nat.le_refl _⟩, ⟨by (with_reducible repeat (first | refine blk_drewN ?_ _ | refine blk_drew ?_ | refine blk_alloc ?_ _)); exact BK164.out⟩, ⟨bs_ HB.out GE164.out⟩⟩
      case rest =>
       obtain rfl := BQ_.out
       clear HC16
       try clear c1
       try clear p2
       try clear c3
       try clear c5
       try clear c5b0
       try clear c5b1
       try clear p6
       try clear c8
       try clear c9
       try clear c10
       try clear c13
       try clear c13b0
       try clear c18
       try clear c18b0
       try clear hcz8_0
       try clear hcz8_1
       try clear hfz8_0
       try clear hfz8_1
       obtain ⟨kq, x1_15, x2_15, rfl, rfl, HA, HJ15, BK164, HB⟩ := hcut
       cases kq with
       | zero => exact absurd HA.out (by simp [impl_climb.j0])
       | succ kj15 =>
        have H := HA.out
        clear HA
        simp only [impl_climb.j0] at H
        obtain ⟨ji19, hji19⟩ : ∃ j_ : Int, (wrap64 ((l3.length : Int) - 1)) = j_ := ⟨_, rfl⟩
        replace H : (if 0 ≤ (ji19) then (if (ji19) ≤ (l3.length : Int) then ((impl_climb.f kj15 a0_0 a0_1 x1_15 x2_15 (l3.take ((ji19) : Int).toNat)).bind fun bt173 => (if bt173.2 = true then (if 0 ≤ (wrap64 ((bt173.1.length : Int) - 1)) then (if (wrap64 ((bt173.1.length : Int) - 1)) < (bt173.1.length : Int) then ((impl_Digest.f kj15 (rd_L3 bt173.1 (wrap64 ((bt173.1.length : Int) - 1)))).bind fun t178 => (if (decide (a1 ≥ t171)) = true then (if (ji19) < (l3.length : Int) then ((impl_nodeBytes.f (rdOf ByteArray.empty l3 (ji19)) t178).bind fun t180 => (if bt173.1.length < 5864062014805 then (some ((bt173.1 ++ [t180]), true)) else (none))) else (none)) else (if (ji19) < (l3.length : Int) then ((impl_nodeBytes.f t178 (rdOf ByteArray.empty l3 (ji19))).bind fun t187 => (if bt173.1.length < 5864062014805 then (some ((bt173.1 ++ [t187]), true)) else (none))) else (none)))) else (none)) else (none)) else (some (([] : List (List Int)), false)))) else (none)) else (none)) = some (r1, r2) := by first | (rw [hji19] at H; exact H) | (simp only [hji19] at H ⊢; exact H)
        (try rw [hji19] at c13b0)
        have hji19w : (IntKind.i64.wrap ((l3.length : Int) - 1)) = ji19 := (i64_w _).trans hji19
        by_cases c20 : 0 ≤ (ji19)
        rotate_left
        · rw [if_neg c20] at H; exact absurd H (by simp)
        rw [if_pos c20] at H
        have c20b0 := eq_true c20
        have c20b1 : decide (0 ≤ (ji19)) = true := decide_eq_true c20
        clear c20
        by_cases c21 : (ji19) ≤ (l3.length : Int)
        rotate_left
        · rw [if_neg c21] at H; exact absurd H (by simp)
        rw [if_pos c21] at H
        have c21b0 := eq_true c21
        have c21b1 : decide ((ji19) ≤ (l3.length : Int)) = true := decide_eq_true c21
        clear c21
        replace H := Option.bind_eq_some_iff.mp H
        obtain ⟨⟨t173, t176⟩, A220, H⟩ := H; try dsimp only at H
        have A22 := Aside0.mk A220
        clear A220
        by_cases c23 : t176 = true
        · subst c23
          have H1 : (if 0 ≤ (wrap64 ((t173.length : Int) - 1)) then (if (wrap64 ((t173.length : Int) - 1)) < (t173.length : Int) then ((impl_Digest.f kj15 (rd_L3 t173 (wrap64 ((t173.length : Int) - 1)))).bind fun t178 => (if (decide (a1 ≥ t171)) = true then (if (ji19) < (l3.length : Int) then ((impl_nodeBytes.f (rdOf ByteArray.empty l3 (ji19)) t178).bind fun t180 => (if t173.length < 5864062014805 then (some ((t173 ++ [t180]), true)) else (none))) else (none)) else (if (ji19) < (l3.length : Int) then ((impl_nodeBytes.f t178 (rdOf ByteArray.empty l3 (ji19))).bind fun t187 => (if t173.length < 5864062014805 then (some ((t173 ++ [t187]), true)) else (none))) else (none)))) else (none)) else (none)) = some (r1, r2) := by rw [if_pos rfl] at H; exact H
          clear H
          have H := H1
          clear H1
          obtain ⟨ji24, hji24⟩ : ∃ j_ : Int, (wrap64 ((t173.length : Int) - 1)) = j_ := ⟨_, rfl⟩
          replace H : (if 0 ≤ (ji24) then (if (ji24) < (t173.length : Int) then ((impl_Digest.f kj15 (rd_L3 t173 (ji24))).bind fun t178 => (if (decide (a1 ≥ t171)) = true then (if (ji19) < (l3.length : Int) then ((impl_nodeBytes.f (rdOf ByteArray.empty l3 (ji19)) t178).bind fun t180 => (if t173.length < 5864062014805 then (some ((t173 ++ [t180]), true)) else (none))) else (none)) else (if (ji19) < (l3.length : Int) then ((impl_nodeBytes.f t178 (rdOf ByteArray.empty l3 (ji19))).bind fun t187 => (if t173.length < 5864062014805 then (some ((t173 ++ [t187]), true)) else (none))) else (none)))) else (none)) else (none)) = some (r1, r2) := by first | (rw [hji24] at H; exact H) | (simp only [hji24] at H ⊢; exact H)
          (try rw [hji24] at A22)
          have hji24w : (IntKind.i64.wrap ((t173.length : Int) - 1)) = ji24 := (i64_w _).trans hji24
          by_cases c25 : 0 ≤ (ji24)
          rotate_left
          · rw [if_neg c25] at H; exact absurd H (by simp)
          rw [if_pos c25] at H
          have c25b0 : decide (0 ≤ (ji24)) = true := decide_eq_true c25
          clear c25
          by_cases c26 : (ji24) < (t173.length : Int)
          rotate_left
          · rw [if_neg c26] at H; exact absurd H (by simp)
          rw [if_pos c26] at H
          have c26b0 : decide ((ji24) < (t173.length : Int)) = true := decide_eq_true c26
          clear c26
          replace H := Option.bind_eq_some_iff.mp H
          obtain ⟨t178, A270, H⟩ := H
          have A27 := Aside0.mk A270
          clear A270
          by_cases c28 : (decide (a1 ≥ t171)) = true
          · rw [if_pos c28] at H
            have c28b0 : (decide (a1 ≥ t171)) = true := c28
            clear c28
            by_cases c29 : (ji19) < (l3.length : Int)
            rotate_left
            · rw [if_neg c29] at H; exact absurd H (by simp)
            rw [if_pos c29] at H
            have c29b0 : decide ((ji19) < (l3.length : Int)) = true := decide_eq_true c29
            clear c29
            replace H := Option.bind_eq_some_iff.mp H
            obtain ⟨t180, A300, H⟩ := H
            have A30 := Aside0.mk A300
            clear A300
            by_cases c31 : t173.length < 5864062014805
            rotate_left
            · rw [if_neg c31] at H; exact absurd H (by simp)
            rw [if_pos c31] at H
            have LMc31 := Aside0.mk c31
            clear c31
            obtain ⟨y183, hy183⟩ : ∃ y_ : List (List Int), y_ = (t173 ++ [t180]) := ⟨_, rfl⟩
            replace H : (some (y183, true)) = some (r1, r2) := by first | (rw [hy183]; with_reducible exact H) | (have H2_ := (Option.bind_some _ _).symm.trans H; rw [hy183]; with_reducible exact H2_) | (have H2_ := (Option.bind_some _ _).symm.trans H; with_reducible exact H2_) | with_reducible exact H | (rw [hy183]; exact H) | exact H
            have Ny183 := Aside0.mk hy183
            clear hy183
            simp only [Option.some.injEq, Prod.mk.injEq] at H
            obtain ⟨rfl, rfl⟩ := H
            try go_wp2
            have n0_ := Aside0.mk (blk_drew BK164.out)
            have n1_ := Aside0.mk (below_drew1 HB.out)
            clear BK164
            clear HB
            have BK164 := n0_
            have HB := n1_
            clear n0_ n1_
            obtain ⟨i033, hi033, _, hsz33, _⟩ := info_parts info9
            obtain ⟨hcut33, hA33, hC33⟩ := print_take_of (P := Try.prog) Value.string (⟨#[]⟩ : ByteArray) 27 9 .i64 Try.underlying27 hi033 hsz33 A3 c3 l3 (ji19) (of_decide_eq_true (by first | (with_reducible assumption) | assumption)) (of_decide_eq_true (by first | (with_reducible assumption) | assumption)) HC3.out
            have HR172 := Aside0.mk (Kd.C_of_reads (h1 := fun _ => rfl) (hA33 _ (Kd.reads_of_C HR3.out)))
            have HC172 := Aside0.mk hC33
            clear hA33 hC33 hi033 hsz33
            refine start_ (n := 12) (S := fun w' => w'.cell? ⟨gb164, 0, none⟩ = some (.string a0_0) ∧ w'.cell? ⟨gb164, 1, none⟩ = some (.string a0_1)) (ds := []) (bq_ 0 12) (by kernel_rfl) rfl rfl ⟨(blk_cell BK164.out 0).trans rfl, (blk_cell BK164.out 1).trans rfl⟩ (fun hHeld => ?_); refine with_tabW impl_climb.tab11 impl_climb.bits11 (fun HT_ HW_ => ?_)
            generalize wc.drew = w32 at BK164 HB HR172 hHeld ⊢
            refine pu_ 1 (some 44) #[false, true, false, false, false, false, false, false, false, false, false, false] HT_ ?_
            refine pu_ 2 (some 45) #[false, true, true, false, false, false, false, false, false, false, false, false] HT_ ?_
            refine pu_ 3 (some 46) #[false, true, true, true, false, false, false, false, false, false, false, false] HT_ ?_
            refine pu_ 4 (some 47) #[false, true, true, true, true, false, false, false, false, false, false, false] HT_ ?_
            refine pu_ 5 (some 48) #[false, true, true, true, true, true, false, false, false, false, false, false] HT_ ?_
            refine take_ (i := 0) (N := some 43) (v := ?_) (a' := ?_) (bq_ 6 6) rfl rfl (take_ofW HT_.out HW_.out (by kernel_rfl)) (fun _ _ _ h => h) (Or.inl ⟨by rfl, ?_⟩) hHeld ?_ ?_
            rotate_left
            · rintro w' ⟨s0, s1⟩
              go_simp
              with_reducible rfl
            rotate_left
            · simp only [Act.put, sa_, sz_, ss_, i64_w, i32_w]; rfl
            refine on_ 6 (some 49) (bq_ 7 5) HT_ (fun K hK => ?_)
            refine goes_ Try.func99 (by kernel_rfl) rfl #[.agg #[.string a0_0, .string a0_1], .int .i64 x1_15, .int .i64 x2_15, .slice A3 (l3.take ((ji19) : Int).toNat).length c3] (by rfl) rfl rfl (by (try simp only [List.map_toArray, List.map_cons, List.map_nil]); first | done | (rw [show (l3.take ((ji19) : Int).toNat).length = (ji19).toNat from (by rw [List.length_take]; have h_ : ((ji19) : Int) ≤ (l3.length : Int) := of_decide_eq_true (by first | (with_reducible assumption) | assumption); omega)] <;> rfl) | (simp only [hji19]; rfl) | rfl | (simp only [List.length_drop, List.length_take]; rfl)) ?_
            with_reducible refine (ih kj15 (by have := HJ15.out; omega) a0_0 a0_1 x1_15 x2_15 _ _ (l3.take ((ji19) : Int).toNat) t173 true _ ?side1 ?side2 A22.out).mono ?_
            (case side1 => exact kc_ (Kd.C_below HR172.out HB.out))
            (case side2 => exact HC172.out)
            rintro e w34 ⟨v174, rfl, ho0, hb⟩
            refine ⟨_, rfl, ?_⟩
            have n0_ := Aside0.mk (Kd.N_lower (Kd.N_mono (ok' := fun k_ => (w.heap.size ≤ k_) ∧ k_ ≠ gb164) ho0 (fun k_ hk_ => ⟨(Nat.le_trans (below_size (bs_ HB.out GE164.out)) hk_), (Kd.freshB (g := gb164) (o := .cells #[.string a0_0, .string a0_1] 26 (0, 0)) (bk_ BK164.out) k_ hk_)⟩)) (below_size (bs_ HB.out GE164.out)))
            have n1_ := Aside0.mk (blk_below (g := gb164) (o := .cells #[.string a0_0, .string a0_1] 26 (0, 0)) (bk_ BK164.out) hb)
            have n2_ := Aside0.mk (below_step (bs_ HB.out GE164.out) hb)
            clear BK164
            clear HB
            have HO175 := n0_
            have BK164 := n1_
            have HB := n2_
            clear n0_ n1_ n2_
            (try clear hb)
            (try clear hb2)
            (try clear hk)
            (try clear hi)
            (try clear ho0)
            refine hK.out _ _ ⟨(blk_cell BK164.out 0).trans rfl, (blk_cell BK164.out 1).trans rfl⟩ (fun hHeld => ?_)
            clear hK K
            refine nm_ ?_
            refine pu_ 7 (some 42) (bq_ 8 4) HT_ ?_
            refine pu_ 8 (some 50) (bq_ 9 3) HT_ ?_
            refine pu_ 9 (some 51) (bq_ 10 2) HT_ ?_
            refine pu_ 10 (some 13) (bq_ 11 1) HT_ ?_
            refine pu_ 11 (some 14) (bq_ 12 0) HT_ ?_
            refine done_ (done_of HT_.out (by kernel_rfl)) ?_
            obtain ⟨Ao35, co35, eo35⟩ := Kd.N_slice HO175.out
            subst eo35
            have p177 : 0 ≤ ((ji24) : Int) := of_decide_eq_true (by first | (with_reducible assumption) | assumption)
            have q177 : (ji24) < (t173.length : Int) := of_decide_eq_true (by first | (with_reducible assumption) | assumption)
            obtain ⟨ad177, A177_0, c177_0, e177, hx177_0, hl177_0, hi177_0⟩ := at_L3 (Kd.N_reads' HO175.out).2.2 (ji24) p177 q177
            cases e177
            obtain ⟨ce177, hce177, hMe177, hcc177⟩ := Kd.N_get HO175.out [] (ji24) p177 (by first | exact q177 | exact of_decide_eq_true (by first | (with_reducible assumption) | assumption) | (have e_ := (Kd.N_reads' HO175.out).1; omega))
            obtain ⟨ua177_0, uc177_0, rfl, ul177_0, ge177_0⟩ := Kd.FK_slice_open hMe177
            have hv177_0 := hcc177 0 _ rfl
            rw [Nat.add_zero, show ((Kd.slice 5 (Kd.int .u8))).sz = 1 from rfl, Nat.mul_one] at hv177_0
            replace hv177_0 := Option.some.inj (hv177_0.symm.trans hx177_0)
            injection hv177_0 with hva_ hvn_ hvc_
            rw [hva_] at ge177_0
            rw [hvc_] at ul177_0
            have HL177_0 := Aside0.mk (show Kd.V (Kd.int .u8) 5 _ w.heap.size _ _ (rd_L3 t173 (ji24)) from Kd.V_mk ul177_0 ge177_0)
            clear hva_ hvn_ hvc_ ge177_0 ul177_0
            clear hcc177 hce177
            have HR177_0 := Aside0.mk hi177_0
            have HC177_0 := Aside0.mk hl177_0
            clear hi177_0 hl177_0
            replace p177 := eq_true p177
            replace q177 := eq_true q177
            try go_wp2_with (first | ((with_reducible refine gate_callee (f := 67) rfl ?_); refine goesL_ (some 60) rfl rfl Try.func67 (by kernel_rfl) rfl #[.slice A177_0 (rd_L3 t173 (ji24)).length c177_0] rfl (by (try simp only [List.map_toArray, List.map_cons, List.map_nil]); first | done | (simp only [hji24]; rfl) | rfl | (simp only [List.length_drop, List.length_take]; rfl)) ?_; (with_reducible refine (impl_Digest.calls kj15 _ _ (rd_L3 t173 (ji24)) t178 _ ?side1 ?side2 A27.out).mono ?_); (case side1 => repeat (first | exact (by repeat (first | (with_reducible exact HR177_0.out) | (with_reducible refine Kd.C_alloc ?_ _) | (with_reducible refine Kd.C_drewN ?_ _) | (with_reducible refine Kd.C_drew ?_) | exact HR177_0.out)) | (with_reducible refine Kd.C_alloc ?_ _) | (with_reducible refine Kd.C_drewN ?_ _) | (with_reducible refine Kd.C_drew ?_))); (case side2 => exact HC177_0.out); rintro e w36 ⟨rfl, hb⟩; refine ⟨_, rfl, ?_⟩; have n0_ := Aside0.mk (Kd.N_below (by (with_reducible repeat (first | apply Kd.N_alloc | apply Kd.N_drewN | apply Kd.N_drew)); exact HO175.out) hb); have n1_ := Aside0.mk (Kd.V_below (by (with_reducible repeat (first | apply Kd.V_alloc | apply Kd.V_drewN | apply Kd.V_drew)); exact HL177_0.out) hb); have n2_ := Aside0.mk (blk_below (g := gb164) (o := .cells #[.string a0_0, .string a0_1] 26 (0, 0)) (bk_ BK164.out) hb); have n3_ := Aside0.mk (Kd.C_below (by repeat (first | (with_reducible exact HR177_0.out) | (with_reducible refine Kd.C_alloc ?_ _) | (with_reducible refine Kd.C_drewN ?_ _) | (with_reducible refine Kd.C_drew ?_) | exact HR177_0.out)) hb); have n4_ := Aside0.mk (below_step (bs_ HB.out GE164.out) hb); clear HO175; clear HL177_0; clear BK164; clear HR177_0; clear HB; have HO175 := n0_; have HL177_0 := n1_; have BK164 := n2_; have HR177_0 := n3_; have HB := n4_; clear n0_ n1_ n2_ n3_ n4_; (try clear hb); (try clear hb2); (try clear hk); (try clear hi); have p179 : 0 ≤ ((ji19) : Int) := of_decide_eq_true (by first | (with_reducible assumption) | assumption); have q179 : (ji19) < (l3.length : Int) := of_decide_eq_true (by first | (with_reducible assumption) | assumption); obtain ⟨ad179, e179, hx179_0⟩ := Kd.at_string HR3.out (ji19) p179 q179; cases e179; replace hx179_0 := (HB.out.cell (World.block_lt_of_cell? w _ hx179_0)).trans hx179_0; replace p179 := eq_true p179; replace q179 := eq_true q179) | ((with_reducible refine gate_callee (f := 124) rfl ?_); refine goesL_ (some 68) rfl rfl Try.func124 (by kernel_rfl) rfl #[.string (rdOf ByteArray.empty l3 (ji19)), .string t178] rfl (by (try simp only [List.map_toArray, List.map_cons, List.map_nil]); first | done | (simp only [hji19]; rfl) | rfl | (simp only [List.length_drop, List.length_take]; rfl)) ?_; (with_reducible refine (impl_nodeBytes.calls (rdOf ByteArray.empty l3 (ji19)) t178 t180 _ A30.out).mono ?_); rintro e w37 ⟨v181, rfl, ho0, hb⟩; refine ⟨_, rfl, ?_⟩; have n0_ := Aside0.mk (Kd.N_elder' (by (with_reducible repeat (first | apply Kd.N_alloc | apply Kd.N_drewN | apply Kd.N_drew)); exact HO175.out) (Kd.R_base ho0) hb); have n1_ := Aside0.mk (Kd.V_elder' (by (with_reducible repeat (first | apply Kd.V_alloc | apply Kd.V_drewN | apply Kd.V_drew)); exact HL177_0.out) (Kd.R_base ho0) hb); have n2_ := Aside0.mk (Kd.R_lower (Kd.R_newM (M := fun k_ => (w.heap.size ≤ k_)) ho0 (below_size (bs_ HB.out GE164.out)) (fun k_ h_ => h_)) (below_size (bs_ HB.out GE164.out))); have n3_ := Aside0.mk (blk_below (g := gb164) (o := .cells #[.string a0_0, .string a0_1] 26 (0, 0)) (bk_ BK164.out) hb); have n4_ := Aside0.mk (Kd.C_below (by repeat (first | (with_reducible exact HR177_0.out) | (with_reducible refine Kd.C_alloc ?_ _) | (with_reducible refine Kd.C_drewN ?_ _) | (with_reducible refine Kd.C_drew ?_) | exact HR177_0.out)) hb); have n5_ := Aside0.mk (below_step (bs_ HB.out GE164.out) hb); clear HO175; clear HL177_0; clear BK164; clear HR177_0; clear HB; have HO175 := n0_; have HL177_0 := n1_; have HO182 := n2_; have BK164 := n3_; have HR177_0 := n4_; have HB := n5_; clear n0_ n1_ n2_ n3_ n4_ n5_; (try clear hb); (try clear hb2); (try clear hk); (try clear hi); (try clear ho0); obtain ⟨Ao39, co39, eo39⟩ := Kd.R_slice HO182.out; subst eo39) | ((with_reducible refine gate_builtin (b := .append) (xs := #[.tmp 62, .tmp 69]) rfl ?_); at_builtin; refine Kd.N_append (Kd.slice 5 (Kd.int .u8)) (w0 := w) w.heap.size rfl (.tmp 62) (.tmp 69) 83 22 (.slice none 0 0) 24 rfl Try.underlying83 info22 rfl (by decide) (by omega) (.slice (some ad177) t173.length co35) t173 t180 [.slice Ao39 t180.length co39] (fun k_ => (w.heap.size ≤ k_) ∧ k_ ≠ gb164) (fun k_ => ((fun k_ => (w.heap.size ≤ k_) ∧ k_ ≠ gb164)) k_ ∧ some k_ ≠ (.slice (some ad177) t173.length co35 : Value).ownBlock) rfl rfl ?aP (fun _ hk => hk) ?aF ?aO ?aB ?aS ?aL ?_; (case aP => exact (Kd.FK_slice_mk (Kd.R_reads' (Kd.R_mono (ok' := (fun k_ => ((fun k_ => (w.heap.size ≤ k_) ∧ k_ ≠ gb164)) k_ ∧ some k_ ≠ (.slice (some ad177) t173.length co35 : Value).ownBlock)) (Kd.R_types (Kd.R_apart' (HO182.out) (Kd.N_typed HO175.out) (by decide)) BK164.out (by decide)) (fun k_ hk => ⟨⟨hk.1.1.1, hk.2⟩, hk.1.2⟩))).2.1 (Kd.R_F (Kd.R_mono (ok' := (fun k_ => ((fun k_ => (w.heap.size ≤ k_) ∧ k_ ≠ gb164)) k_ ∧ some k_ ≠ (.slice (some ad177) t173.length co35 : Value).ownBlock)) (Kd.R_types (Kd.R_apart' (HO182.out) (Kd.N_typed HO175.out) (by decide)) BK164.out (by decide)) (fun k_ hk => ⟨⟨hk.1.1.1, hk.2⟩, hk.1.2⟩))))); (case aB => exact (bs_ HB.out GE164.out)); (case aF => exact (fun k_ hk => ⟨(Nat.le_trans (below_size (bs_ HB.out GE164.out)) hk), Kd.freshB (g := gb164) (o := .cells #[.string a0_0, .string a0_1] 26 (0, 0)) (bk_ BK164.out) k_ hk⟩)); (case aO => exact (by (with_reducible repeat (first | apply Kd.N_alloc | apply Kd.N_drewN | apply Kd.N_drew)); exact Kd.N_mono HO175.out (fun _ hk => ⟨hk.1.1, hk.1.2⟩))); (case aS => exact (below_size (bs_ HB.out GE164.out))); (case aL => have := LMc31.out; omega); intro v184 w38 ho hb hg hat; rw [← Ny183.out] at ho; have n0_ := Aside0.mk (blk_grown (g := gb164) (o := .cells #[.string a0_0, .string a0_1] 26 (0, 0)) (bk_ BK164.out) hg (Kd.N_ne HO175.out BK164.out (by decide))); have n1_ := Aside0.mk (Kd.V_afterv (ok := (fun k_ => (w.heap.size ≤ k_) ∧ some k_ ≠ (.slice Ao39 t180.length co39 : Value).ownBlock ∧ k_ ≠ gb164)) (by (with_reducible repeat (first | apply Kd.V_alloc | apply Kd.V_drewN | apply Kd.V_drew)); exact Kd.V_mono HL177_0.out (fun _ hk => ⟨⟨hk.1.1.1, ⟨hk.2, hk.1.1.2⟩⟩, hk.1.2⟩)) hg hat); have n2_ := Aside0.mk (hb); have n3_ := Aside0.mk (ho); clear BK164; clear HL177_0; clear HB; clear HO175; clear HO182; have BK164 := n0_; have HL177_0 := n1_; have HB := n2_; have HO185 := n3_; clear n0_ n1_ n2_ n3_; clear ho hb hg hat))
            go_ret2
            exact ⟨_, by first | rfl | (simp [errW_none, errW_some] <;> rfl) | (simp only [← hji19, ← hji24]; first | rfl | (simp [errW_none, errW_some] <;> rfl)) | (simp [*, errW_none, errW_some] <;> rfl), by (with_reducible repeat (first | apply Kd.N_alloc | apply Kd.N_drewN | apply Kd.N_drew)); exact Kd.N_mono HO185.out (fun _ hk => hk.1), bs_ HB.out GE164.out⟩
          · rw [if_neg c28] at H
            have c28b0 : (decide (a1 ≥ t171)) = false := by simpa using c28
            clear c28
            by_cases c40 : (ji19) < (l3.length : Int)
            rotate_left
            · rw [if_neg c40] at H; exact absurd H (by simp)
            rw [if_pos c40] at H
            have c40b0 : decide ((ji19) < (l3.length : Int)) = true := decide_eq_true c40
            clear c40
            replace H := Option.bind_eq_some_iff.mp H
            obtain ⟨t187, A410, H⟩ := H
            have A41 := Aside0.mk A410
            clear A410
            by_cases c42 : t173.length < 5864062014805
            rotate_left
            · rw [if_neg c42] at H; exact absurd H (by simp)
            rw [if_pos c42] at H
            have LMc42 := Aside0.mk c42
            clear c42
            obtain ⟨y190, hy190⟩ : ∃ y_ : List (List Int), y_ = (t173 ++ [t187]) := ⟨_, rfl⟩
            replace H : (some (y190, true)) = some (r1, r2) := by first | (rw [hy190]; with_reducible exact H) | (have H2_ := (Option.bind_some _ _).symm.trans H; rw [hy190]; with_reducible exact H2_) | (have H2_ := (Option.bind_some _ _).symm.trans H; with_reducible exact H2_) | with_reducible exact H | (rw [hy190]; exact H) | exact H
            have Ny190 := Aside0.mk hy190
            clear hy190
            simp only [Option.some.injEq, Prod.mk.injEq] at H
            obtain ⟨rfl, rfl⟩ := H
            try go_wp2
            have n0_ := Aside0.mk (blk_drew BK164.out)
            have n1_ := Aside0.mk (below_drew1 HB.out)
            clear BK164
            clear HB
            have BK164 := n0_
            have HB := n1_
            clear n0_ n1_
            obtain ⟨i044, hi044, _, hsz44, _⟩ := info_parts info9
            obtain ⟨hcut44, hA44, hC44⟩ := print_take_of (P := Try.prog) Value.string (⟨#[]⟩ : ByteArray) 27 9 .i64 Try.underlying27 hi044 hsz44 A3 c3 l3 (ji19) (of_decide_eq_true (by first | (with_reducible assumption) | assumption)) (of_decide_eq_true (by first | (with_reducible assumption) | assumption)) HC3.out
            have HR172 := Aside0.mk (Kd.C_of_reads (h1 := fun _ => rfl) (hA44 _ (Kd.reads_of_C HR3.out)))
            have HC172 := Aside0.mk hC44
            clear hA44 hC44 hi044 hsz44
            refine start_ (n := 12) (S := fun w' => w'.cell? ⟨gb164, 0, none⟩ = some (.string a0_0) ∧ w'.cell? ⟨gb164, 1, none⟩ = some (.string a0_1)) (ds := []) (bq_ 0 12) (by kernel_rfl) rfl rfl ⟨(blk_cell BK164.out 0).trans rfl, (blk_cell BK164.out 1).trans rfl⟩ (fun hHeld => ?_); refine with_tabW impl_climb.tab11 impl_climb.bits11 (fun HT_ HW_ => ?_)
            generalize wc.drew = w43 at BK164 HB HR172 hHeld ⊢
            refine pu_ 1 (some 44) #[false, true, false, false, false, false, false, false, false, false, false, false] HT_ ?_
            refine pu_ 2 (some 45) #[false, true, true, false, false, false, false, false, false, false, false, false] HT_ ?_
            refine pu_ 3 (some 46) #[false, true, true, true, false, false, false, false, false, false, false, false] HT_ ?_
            refine pu_ 4 (some 47) #[false, true, true, true, true, false, false, false, false, false, false, false] HT_ ?_
            refine pu_ 5 (some 48) #[false, true, true, true, true, true, false, false, false, false, false, false] HT_ ?_
            refine take_ (i := 0) (N := some 43) (v := ?_) (a' := ?_) (bq_ 6 6) rfl rfl (take_ofW HT_.out HW_.out (by kernel_rfl)) (fun _ _ _ h => h) (Or.inl ⟨by rfl, ?_⟩) hHeld ?_ ?_
            rotate_left
            · rintro w' ⟨s0, s1⟩
              go_simp
              with_reducible rfl
            rotate_left
            · simp only [Act.put, sa_, sz_, ss_, i64_w, i32_w]; rfl
            refine on_ 6 (some 49) (bq_ 7 5) HT_ (fun K hK => ?_)
            refine goes_ Try.func99 (by kernel_rfl) rfl #[.agg #[.string a0_0, .string a0_1], .int .i64 x1_15, .int .i64 x2_15, .slice A3 (l3.take ((ji19) : Int).toNat).length c3] (by rfl) rfl rfl (by (try simp only [List.map_toArray, List.map_cons, List.map_nil]); first | done | (rw [show (l3.take ((ji19) : Int).toNat).length = (ji19).toNat from (by rw [List.length_take]; have h_ : ((ji19) : Int) ≤ (l3.length : Int) := of_decide_eq_true (by first | (with_reducible assumption) | assumption); omega)] <;> rfl) | (simp only [hji19]; rfl) | rfl | (simp only [List.length_drop, List.length_take]; rfl)) ?_
            with_reducible refine (ih kj15 (by have := HJ15.out; omega) a0_0 a0_1 x1_15 x2_15 _ _ (l3.take ((ji19) : Int).toNat) t173 true _ ?side1 ?side2 A22.out).mono ?_
            (case side1 => exact kc_ (Kd.C_below HR172.out HB.out))
            (case side2 => exact HC172.out)
            rintro e w45 ⟨v174, rfl, ho0, hb⟩
            refine ⟨_, rfl, ?_⟩
            have n0_ := Aside0.mk (Kd.N_lower (Kd.N_mono (ok' := fun k_ => (w.heap.size ≤ k_) ∧ k_ ≠ gb164) ho0 (fun k_ hk_ => ⟨(Nat.le_trans (below_size (bs_ HB.out GE164.out)) hk_), (Kd.freshB (g := gb164) (o := .cells #[.string a0_0, .string a0_1] 26 (0, 0)) (bk_ BK164.out) k_ hk_)⟩)) (below_size (bs_ HB.out GE164.out)))
            have n1_ := Aside0.mk (blk_below (g := gb164) (o := .cells #[.string a0_0, .string a0_1] 26 (0, 0)) (bk_ BK164.out) hb)
            have n2_ := Aside0.mk (below_step (bs_ HB.out GE164.out) hb)
            clear BK164
            clear HB
            have HO175 := n0_
            have BK164 := n1_
            have HB := n2_
            clear n0_ n1_ n2_
            (try clear hb)
            (try clear hb2)
            (try clear hk)
            (try clear hi)
            (try clear ho0)
            refine hK.out _ _ ⟨(blk_cell BK164.out 0).trans rfl, (blk_cell BK164.out 1).trans rfl⟩ (fun hHeld => ?_)
            clear hK K
            refine nm_ ?_
            refine pu_ 7 (some 42) (bq_ 8 4) HT_ ?_
            refine pu_ 8 (some 50) (bq_ 9 3) HT_ ?_
            refine pu_ 9 (some 51) (bq_ 10 2) HT_ ?_
            refine pu_ 10 (some 13) (bq_ 11 1) HT_ ?_
            refine pu_ 11 (some 14) (bq_ 12 0) HT_ ?_
            refine done_ (done_of HT_.out (by kernel_rfl)) ?_
            obtain ⟨Ao46, co46, eo46⟩ := Kd.N_slice HO175.out
            subst eo46
            have p177 : 0 ≤ ((ji24) : Int) := of_decide_eq_true (by first | (with_reducible assumption) | assumption)
            have q177 : (ji24) < (t173.length : Int) := of_decide_eq_true (by first | (with_reducible assumption) | assumption)
            obtain ⟨ad177, A177_0, c177_0, e177, hx177_0, hl177_0, hi177_0⟩ := at_L3 (Kd.N_reads' HO175.out).2.2 (ji24) p177 q177
            cases e177
            obtain ⟨ce177, hce177, hMe177, hcc177⟩ := Kd.N_get HO175.out [] (ji24) p177 (by first | exact q177 | exact of_decide_eq_true (by first | (with_reducible assumption) | assumption) | (have e_ := (Kd.N_reads' HO175.out).1; omega))
            obtain ⟨ua177_0, uc177_0, rfl, ul177_0, ge177_0⟩ := Kd.FK_slice_open hMe177
            have hv177_0 := hcc177 0 _ rfl
            rw [Nat.add_zero, show ((Kd.slice 5 (Kd.int .u8))).sz = 1 from rfl, Nat.mul_one] at hv177_0
            replace hv177_0 := Option.some.inj (hv177_0.symm.trans hx177_0)
            injection hv177_0 with hva_ hvn_ hvc_
            rw [hva_] at ge177_0
            rw [hvc_] at ul177_0
            have HL177_0 := Aside0.mk (show Kd.V (Kd.int .u8) 5 _ w.heap.size _ _ (rd_L3 t173 (ji24)) from Kd.V_mk ul177_0 ge177_0)
            clear hva_ hvn_ hvc_ ge177_0 ul177_0
            clear hcc177 hce177
            have HR177_0 := Aside0.mk hi177_0
            have HC177_0 := Aside0.mk hl177_0
            clear hi177_0 hl177_0
            replace p177 := eq_true p177
            replace q177 := eq_true q177
            try go_wp2_with (first | ((with_reducible refine gate_callee (f := 67) rfl ?_); refine goesL_ (some 60) rfl rfl Try.func67 (by kernel_rfl) rfl #[.slice A177_0 (rd_L3 t173 (ji24)).length c177_0] rfl (by (try simp only [List.map_toArray, List.map_cons, List.map_nil]); first | done | (simp only [hji24]; rfl) | rfl | (simp only [List.length_drop, List.length_take]; rfl)) ?_; (with_reducible refine (impl_Digest.calls kj15 _ _ (rd_L3 t173 (ji24)) t178 _ ?side1 ?side2 A27.out).mono ?_); (case side1 => repeat (first | exact (by repeat (first | (with_reducible exact HR177_0.out) | (with_reducible refine Kd.C_alloc ?_ _) | (with_reducible refine Kd.C_drewN ?_ _) | (with_reducible refine Kd.C_drew ?_) | exact HR177_0.out)) | (with_reducible refine Kd.C_alloc ?_ _) | (with_reducible refine Kd.C_drewN ?_ _) | (with_reducible refine Kd.C_drew ?_))); (case side2 => exact HC177_0.out); rintro e w47 ⟨rfl, hb⟩; refine ⟨_, rfl, ?_⟩; have n0_ := Aside0.mk (Kd.N_below (by (with_reducible repeat (first | apply Kd.N_alloc | apply Kd.N_drewN | apply Kd.N_drew)); exact HO175.out) hb); have n1_ := Aside0.mk (Kd.V_below (by (with_reducible repeat (first | apply Kd.V_alloc | apply Kd.V_drewN | apply Kd.V_drew)); exact HL177_0.out) hb); have n2_ := Aside0.mk (blk_below (g := gb164) (o := .cells #[.string a0_0, .string a0_1] 26 (0, 0)) (bk_ BK164.out) hb); have n3_ := Aside0.mk (Kd.C_below (by repeat (first | (with_reducible exact HR177_0.out) | (with_reducible refine Kd.C_alloc ?_ _) | (with_reducible refine Kd.C_drewN ?_ _) | (with_reducible refine Kd.C_drew ?_) | exact HR177_0.out)) hb); have n4_ := Aside0.mk (below_step (bs_ HB.out GE164.out) hb); clear HO175; clear HL177_0; clear BK164; clear HR177_0; clear HB; have HO175 := n0_; have HL177_0 := n1_; have BK164 := n2_; have HR177_0 := n3_; have HB := n4_; clear n0_ n1_ n2_ n3_ n4_; (try clear hb); (try clear hb2); (try clear hk); (try clear hi); have p186 : 0 ≤ ((ji19) : Int) := of_decide_eq_true (by first | (with_reducible assumption) | assumption); have q186 : (ji19) < (l3.length : Int) := of_decide_eq_true (by first | (with_reducible assumption) | assumption); obtain ⟨ad186, e186, hx186_0⟩ := Kd.at_string HR3.out (ji19) p186 q186; cases e186; replace hx186_0 := (HB.out.cell (World.block_lt_of_cell? w _ hx186_0)).trans hx186_0; replace p186 := eq_true p186; replace q186 := eq_true q186) | ((with_reducible refine gate_callee (f := 124) rfl ?_); refine goesL_ (some 77) rfl rfl Try.func124 (by kernel_rfl) rfl #[.string t178, .string (rdOf ByteArray.empty l3 (ji19))] rfl (by (try simp only [List.map_toArray, List.map_cons, List.map_nil]); first | done | (simp only [hji19]; rfl) | rfl | (simp only [List.length_drop, List.length_take]; rfl)) ?_; (with_reducible refine (impl_nodeBytes.calls t178 (rdOf ByteArray.empty l3 (ji19)) t187 _ A41.out).mono ?_); rintro e w48 ⟨v188, rfl, ho0, hb⟩; refine ⟨_, rfl, ?_⟩; have n0_ := Aside0.mk (Kd.N_elder' (by (with_reducible repeat (first | apply Kd.N_alloc | apply Kd.N_drewN | apply Kd.N_drew)); exact HO175.out) (Kd.R_base ho0) hb); have n1_ := Aside0.mk (Kd.V_elder' (by (with_reducible repeat (first | apply Kd.V_alloc | apply Kd.V_drewN | apply Kd.V_drew)); exact HL177_0.out) (Kd.R_base ho0) hb); have n2_ := Aside0.mk (Kd.R_lower (Kd.R_newM (M := fun k_ => (w.heap.size ≤ k_)) ho0 (below_size (bs_ HB.out GE164.out)) (fun k_ h_ => h_)) (below_size (bs_ HB.out GE164.out))); have n3_ := Aside0.mk (blk_below (g := gb164) (o := .cells #[.string a0_0, .string a0_1] 26 (0, 0)) (bk_ BK164.out) hb); have n4_ := Aside0.mk (Kd.C_below (by repeat (first | (with_reducible exact HR177_0.out) | (with_reducible refine Kd.C_alloc ?_ _) | (with_reducible refine Kd.C_drewN ?_ _) | (with_reducible refine Kd.C_drew ?_) | exact HR177_0.out)) hb); have n5_ := Aside0.mk (below_step (bs_ HB.out GE164.out) hb); clear HO175; clear HL177_0; clear BK164; clear HR177_0; clear HB; have HO175 := n0_; have HL177_0 := n1_; have HO189 := n2_; have BK164 := n3_; have HR177_0 := n4_; have HB := n5_; clear n0_ n1_ n2_ n3_ n4_ n5_; (try clear hb); (try clear hb2); (try clear hk); (try clear hi); (try clear ho0); obtain ⟨Ao50, co50, eo50⟩ := Kd.R_slice HO189.out; subst eo50) | ((with_reducible refine gate_builtin (b := .append) (xs := #[.tmp 71, .tmp 78]) rfl ?_); at_builtin; refine Kd.N_append (Kd.slice 5 (Kd.int .u8)) (w0 := w) w.heap.size rfl (.tmp 71) (.tmp 78) 83 22 (.slice none 0 0) 24 rfl Try.underlying83 info22 rfl (by decide) (by omega) (.slice (some ad177) t173.length co46) t173 t187 [.slice Ao50 t187.length co50] (fun k_ => (w.heap.size ≤ k_) ∧ k_ ≠ gb164) (fun k_ => ((fun k_ => (w.heap.size ≤ k_) ∧ k_ ≠ gb164)) k_ ∧ some k_ ≠ (.slice (some ad177) t173.length co46 : Value).ownBlock) rfl rfl ?aP (fun _ hk => hk) ?aF ?aO ?aB ?aS ?aL ?_; (case aP => exact (Kd.FK_slice_mk (Kd.R_reads' (Kd.R_mono (ok' := (fun k_ => ((fun k_ => (w.heap.size ≤ k_) ∧ k_ ≠ gb164)) k_ ∧ some k_ ≠ (.slice (some ad177) t173.length co46 : Value).ownBlock)) (Kd.R_types (Kd.R_apart' (HO189.out) (Kd.N_typed HO175.out) (by decide)) BK164.out (by decide)) (fun k_ hk => ⟨⟨hk.1.1.1, hk.2⟩, hk.1.2⟩))).2.1 (Kd.R_F (Kd.R_mono (ok' := (fun k_ => ((fun k_ => (w.heap.size ≤ k_) ∧ k_ ≠ gb164)) k_ ∧ some k_ ≠ (.slice (some ad177) t173.length co46 : Value).ownBlock)) (Kd.R_types (Kd.R_apart' (HO189.out) (Kd.N_typed HO175.out) (by decide)) BK164.out (by decide)) (fun k_ hk => ⟨⟨hk.1.1.1, hk.2⟩, hk.1.2⟩))))); (case aB => exact (bs_ HB.out GE164.out)); (case aF => exact (fun k_ hk => ⟨(Nat.le_trans (below_size (bs_ HB.out GE164.out)) hk), Kd.freshB (g := gb164) (o := .cells #[.string a0_0, .string a0_1] 26 (0, 0)) (bk_ BK164.out) k_ hk⟩)); (case aO => exact (by (with_reducible repeat (first | apply Kd.N_alloc | apply Kd.N_drewN | apply Kd.N_drew)); exact Kd.N_mono HO175.out (fun _ hk => ⟨hk.1.1, hk.1.2⟩))); (case aS => exact (below_size (bs_ HB.out GE164.out))); (case aL => have := LMc42.out; omega); intro v191 w49 ho hb hg hat; rw [← Ny190.out] at ho; have n0_ := Aside0.mk (blk_grown (g := gb164) (o := .cells #[.string a0_0, .string a0_1] 26 (0, 0)) (bk_ BK164.out) hg (Kd.N_ne HO175.out BK164.out (by decide))); have n1_ := Aside0.mk (Kd.V_afterv (ok := (fun k_ => (w.heap.size ≤ k_) ∧ some k_ ≠ (.slice Ao50 t187.length co50 : Value).ownBlock ∧ k_ ≠ gb164)) (by (with_reducible repeat (first | apply Kd.V_alloc | apply Kd.V_drewN | apply Kd.V_drew)); exact Kd.V_mono HL177_0.out (fun _ hk => ⟨⟨hk.1.1.1, ⟨hk.2, hk.1.1.2⟩⟩, hk.1.2⟩)) hg hat); have n2_ := Aside0.mk (hb); have n3_ := Aside0.mk (ho); clear BK164; clear HL177_0; clear HB; clear HO175; clear HO189; have BK164 := n0_; have HL177_0 := n1_; have HB := n2_; have HO192 := n3_; clear n0_ n1_ n2_ n3_; clear ho hb hg hat))
            go_ret2
            exact ⟨_, by first | rfl | (simp [errW_none, errW_some] <;> rfl) | (simp only [← hji19, ← hji24]; first | rfl | (simp [errW_none, errW_some] <;> rfl)) | (simp [*, errW_none, errW_some] <;> rfl), by (with_reducible repeat (first | apply Kd.N_alloc | apply Kd.N_drewN | apply Kd.N_drew)); exact Kd.N_mono HO192.out (fun _ hk => hk.1), bs_ HB.out GE164.out⟩
        · replace c23 := Bool.eq_false_iff.mpr c23
          subst c23
          have H1 : (some (([] : List (List Int)), false)) = some (r1, r2) := by rw [if_neg (show ¬ (false = true) by decide)] at H; exact H
          clear H
          have H := H1
          clear H1
          simp only [Option.some.injEq, Prod.mk.injEq] at H
          obtain ⟨rfl, rfl⟩ := H
          try go_wp2
          have n0_ := Aside0.mk (blk_drew BK164.out)
          have n1_ := Aside0.mk (below_drew1 HB.out)
          clear BK164
          clear HB
          have BK164 := n0_
          have HB := n1_
          clear n0_ n1_
          obtain ⟨i052, hi052, _, hsz52, _⟩ := info_parts info9
          obtain ⟨hcut52, hA52, hC52⟩ := print_take_of (P := Try.prog) Value.string (⟨#[]⟩ : ByteArray) 27 9 .i64 Try.underlying27 hi052 hsz52 A3 c3 l3 (ji19) (of_decide_eq_true (by first | (with_reducible assumption) | assumption)) (of_decide_eq_true (by first | (with_reducible assumption) | assumption)) HC3.out
          have HR172 := Aside0.mk (Kd.C_of_reads (h1 := fun _ => rfl) (hA52 _ (Kd.reads_of_C HR3.out)))
          have HC172 := Aside0.mk hC52
          clear hA52 hC52 hi052 hsz52
          refine start_ (n := 12) (S := fun w' => w'.cell? ⟨gb164, 0, none⟩ = some (.string a0_0) ∧ w'.cell? ⟨gb164, 1, none⟩ = some (.string a0_1)) (ds := []) (bq_ 0 12) (by kernel_rfl) rfl rfl ⟨(blk_cell BK164.out 0).trans rfl, (blk_cell BK164.out 1).trans rfl⟩ (fun hHeld => ?_); refine with_tabW impl_climb.tab11 impl_climb.bits11 (fun HT_ HW_ => ?_)
          generalize wc.drew = w51 at BK164 HB HR172 hHeld ⊢
          refine pu_ 1 (some 44) #[false, true, false, false, false, false, false, false, false, false, false, false] HT_ ?_
          refine pu_ 2 (some 45) #[false, true, true, false, false, false, false, false, false, false, false, false] HT_ ?_
          refine pu_ 3 (some 46) #[false, true, true, true, false, false, false, false, false, false, false, false] HT_ ?_
          refine pu_ 4 (some 47) #[false, true, true, true, true, false, false, false, false, false, false, false] HT_ ?_
          refine pu_ 5 (some 48) #[false, true, true, true, true, true, false, false, false, false, false, false] HT_ ?_
          refine take_ (i := 0) (N := some 43) (v := ?_) (a' := ?_) (bq_ 6 6) rfl rfl (take_ofW HT_.out HW_.out (by kernel_rfl)) (fun _ _ _ h => h) (Or.inl ⟨by rfl, ?_⟩) hHeld ?_ ?_
          rotate_left
          · rintro w' ⟨s0, s1⟩
            go_simp
            with_reducible rfl
          rotate_left
          · simp only [Act.put, sa_, sz_, ss_, i64_w, i32_w]; rfl
          refine on_ 6 (some 49) (bq_ 7 5) HT_ (fun K hK => ?_)
          refine goes_ Try.func99 (by kernel_rfl) rfl #[.agg #[.string a0_0, .string a0_1], .int .i64 x1_15, .int .i64 x2_15, .slice A3 (l3.take ((ji19) : Int).toNat).length c3] (by rfl) rfl rfl (by (try simp only [List.map_toArray, List.map_cons, List.map_nil]); first | done | (rw [show (l3.take ((ji19) : Int).toNat).length = (ji19).toNat from (by rw [List.length_take]; have h_ : ((ji19) : Int) ≤ (l3.length : Int) := of_decide_eq_true (by first | (with_reducible assumption) | assumption); omega)] <;> rfl) | (simp only [hji19]; rfl) | rfl | (simp only [List.length_drop, List.length_take]; rfl)) ?_
          with_reducible refine (ih kj15 (by have := HJ15.out; omega) a0_0 a0_1 x1_15 x2_15 _ _ (l3.take ((ji19) : Int).toNat) t173 false _ ?side1 ?side2 A22.out).mono ?_
          (case side1 => exact kc_ (Kd.C_below HR172.out HB.out))
          (case side2 => exact HC172.out)
          rintro e w53 ⟨v174, rfl, ho0, hb⟩
          refine ⟨_, rfl, ?_⟩
          have n0_ := Aside0.mk (Kd.N_lower (Kd.N_mono (ok' := fun k_ => (w.heap.size ≤ k_) ∧ k_ ≠ gb164) ho0 (fun k_ hk_ => ⟨(Nat.le_trans (below_size (bs_ HB.out GE164.out)) hk_), (Kd.freshB (g := gb164) (o := .cells #[.string a0_0, .string a0_1] 26 (0, 0)) (bk_ BK164.out) k_ hk_)⟩)) (below_size (bs_ HB.out GE164.out)))
          have n1_ := Aside0.mk (blk_below (g := gb164) (o := .cells #[.string a0_0, .string a0_1] 26 (0, 0)) (bk_ BK164.out) hb)
          have n2_ := Aside0.mk (below_step (bs_ HB.out GE164.out) hb)
          clear BK164
          clear HB
          have HO175 := n0_
          have BK164 := n1_
          have HB := n2_
          clear n0_ n1_ n2_
          (try clear hb)
          (try clear hb2)
          (try clear hk)
          (try clear hi)
          (try clear ho0)
          refine hK.out _ _ ⟨(blk_cell BK164.out 0).trans rfl, (blk_cell BK164.out 1).trans rfl⟩ (fun hHeld => ?_)
          clear hK K
          refine nm_ ?_
          refine pu_ 7 (some 42) (bq_ 8 4) HT_ ?_
          refine pu_ 8 (some 50) (bq_ 9 3) HT_ ?_
          refine pu_ 9 (some 51) (bq_ 10 2) HT_ ?_
          refine pu_ 10 (some 13) (bq_ 11 1) HT_ ?_
          refine pu_ 11 (some 14) (bq_ 12 0) HT_ ?_
          refine done_ (done_of HT_.out (by kernel_rfl)) ?_
          try go_wp2
          go_ret2
          exact ⟨_, by first | rfl | (simp [errW_none, errW_some] <;> rfl) | (simp only [← hji19]; first | rfl | (simp [errW_none, errW_some] <;> rfl)) | (simp [*, errW_none, errW_some] <;> rfl), by first | exact Kd.S_nil _ _ _ _ _ | exact Kd.N_nil _ _ _ _ _ | exact Kd.V_nil _ _ _ _ _ | exact Kd.Q_nil _ _ _ _ _ | exact Kd.R_nil _ _ _ _ _, bs_ HB.out GE164.out⟩

/-! ###  impl_wayTo: function 56 -/
def impl_wayTo.f (k : Nat) (a0_0 : ByteArray) (a0_1 : ByteArray) (a1 : Int) (a2 : Int) (l3 : List ByteArray) : Option ((List (List Int)) × Bool) := (impl_climb.f k a0_0 a0_1 a1 a2 l3).bind fun bt194 => (if bt194.2 = true then (if 0 ≤ (wrap64 ((bt194.1.length : Int) - 1)) then (if (wrap64 ((bt194.1.length : Int) - 1)) < (bt194.1.length : Int) then ((impl_Digest.f k (rd_L3 bt194.1 (wrap64 ((bt194.1.length : Int) - 1)))).bind fun t199 => ((impl_rootBytes.f k a2 t199).bind fun t200 => (if bt194.1.length < 5864062014805 then (some ((bt194.1 ++ [t200]), true)) else (none)))) else (none)) else (none)) else (some (([] : List (List Int)), false)))
set_option maxHeartbeats 8000000 in
set_option maxRecDepth 100000 in
theorem impl_wayTo.calls (k : Nat) (a0_0 : ByteArray) (a0_1 : ByteArray) (a1 : Int) (a2 : Int) (A3 : Option Addr) (c3 : Nat) (l3 : List ByteArray) (r1 : List (List Int)) (r2 : Bool) (w : World) (hr3 : Kd.C Kd.string w A3 l3.length l3) (hc3 : l3.length ≤ c3) (h : impl_wayTo.f k a0_0 a0_1 a1 a2 l3 = some (r1, r2)) :
  Calls Try.prog 56 #[.agg #[.string a0_0, .string a0_1], .int .i64 a1, .int .i64 a2, .slice A3 l3.length c3] w fun e w' => ∃ v0_ : Value, e = .returned (.tuple #[v0_, .bool r2]) ∧ Kd.N (Kd.slice 5 (Kd.int .u8)) 22 w' w.heap.size (fun k_ => (w.heap.size ≤ k_)) v0_ r1 ∧ Below w.heap.size w w' := by
  have hu26 := Try.underlying26
  have HR3 := Aside0.mk hr3
  have HC3 := Aside0.mk hc3
  clear hr3 hc3
  have HB := Aside0.mk (Below.refl w.heap.size w)
  have H : ((impl_climb.f k a0_0 a0_1 a1 a2 l3).bind fun bt194 => (if bt194.2 = true then (if 0 ≤ (wrap64 ((bt194.1.length : Int) - 1)) then (if (wrap64 ((bt194.1.length : Int) - 1)) < (bt194.1.length : Int) then ((impl_Digest.f k (rd_L3 bt194.1 (wrap64 ((bt194.1.length : Int) - 1)))).bind fun t199 => ((impl_rootBytes.f k a2 t199).bind fun t200 => (if bt194.1.length < 5864062014805 then (some ((bt194.1 ++ [t200]), true)) else (none)))) else (none)) else (none)) else (some (([] : List (List Int)), false)))) = some (r1, r2) := h
  clear h
  replace H := Option.bind_eq_some_iff.mp H
  obtain ⟨⟨t194, t197⟩, A50, H⟩ := H; try dsimp only at H
  have A5 := Aside0.mk A50
  clear A50
  by_cases c6 : t197 = true
  · subst c6
    have H1 : (if 0 ≤ (wrap64 ((t194.length : Int) - 1)) then (if (wrap64 ((t194.length : Int) - 1)) < (t194.length : Int) then ((impl_Digest.f k (rd_L3 t194 (wrap64 ((t194.length : Int) - 1)))).bind fun t199 => ((impl_rootBytes.f k a2 t199).bind fun t200 => (if t194.length < 5864062014805 then (some ((t194 ++ [t200]), true)) else (none)))) else (none)) else (none)) = some (r1, r2) := by rw [if_pos rfl] at H; exact H
    clear H
    have H := H1
    clear H1
    obtain ⟨ji7, hji7⟩ : ∃ j_ : Int, (wrap64 ((t194.length : Int) - 1)) = j_ := ⟨_, rfl⟩
    replace H : (if 0 ≤ (ji7) then (if (ji7) < (t194.length : Int) then ((impl_Digest.f k (rd_L3 t194 (ji7))).bind fun t199 => ((impl_rootBytes.f k a2 t199).bind fun t200 => (if t194.length < 5864062014805 then (some ((t194 ++ [t200]), true)) else (none)))) else (none)) else (none)) = some (r1, r2) := by first | (rw [hji7] at H; exact H) | (simp only [hji7] at H ⊢; exact H)
    (try rw [hji7] at A5)
    have hji7w : (IntKind.i64.wrap ((t194.length : Int) - 1)) = ji7 := (i64_w _).trans hji7
    by_cases c8 : 0 ≤ (ji7)
    rotate_left
    · rw [if_neg c8] at H; exact absurd H (by simp)
    rw [if_pos c8] at H
    have c8b0 : decide (0 ≤ (ji7)) = true := decide_eq_true c8
    clear c8
    by_cases c9 : (ji7) < (t194.length : Int)
    rotate_left
    · rw [if_neg c9] at H; exact absurd H (by simp)
    rw [if_pos c9] at H
    have c9b0 : decide ((ji7) < (t194.length : Int)) = true := decide_eq_true c9
    clear c9
    replace H := Option.bind_eq_some_iff.mp H
    obtain ⟨t199, A100, H⟩ := H
    have A10 := Aside0.mk A100
    clear A100
    replace H := Option.bind_eq_some_iff.mp H
    obtain ⟨t200, A110, H⟩ := H
    have A11 := Aside0.mk A110
    clear A110
    by_cases c12 : t194.length < 5864062014805
    rotate_left
    · rw [if_neg c12] at H; exact absurd H (by simp)
    rw [if_pos c12] at H
    have LMc12 := Aside0.mk c12
    clear c12
    obtain ⟨y203, hy203⟩ : ∃ y_ : List (List Int), y_ = (t194 ++ [t200]) := ⟨_, rfl⟩
    replace H : (some (y203, true)) = some (r1, r2) := by first | (rw [hy203]; with_reducible exact H) | (have H2_ := (Option.bind_some _ _).symm.trans H; rw [hy203]; with_reducible exact H2_) | (have H2_ := (Option.bind_some _ _).symm.trans H; with_reducible exact H2_) | with_reducible exact H | (rw [hy203]; exact H) | exact H
    have Ny203 := Aside0.mk hy203
    clear hy203
    simp only [Option.some.injEq, Prod.mk.injEq] at H
    obtain ⟨rfl, rfl⟩ := H
    go_enter Try.func56, Try.ntmps56
    go_wp2_with (first | ((with_reducible refine gate_dst (N := 4) rfl ?_); refine box_event ?hg (N := 4) ?hd (cs := #[.string a0_0, .string a0_1]) (t := 26) ?hr ?_; (case hd => rfl); (case hg => rfl); (case hr => first | (go_simp; done) | (go_simp; rfl)); intro gb193 hg w13 hbox hb; have n0_ := Aside0.mk (below_step (be_ HB.out) hb); have n1_ := Aside0.mk (hbox); have n2_ := Aside0.mk ((by rw [hg]; exact (below_size (be_ HB.out)) : w.heap.size ≤ gb193)); have n3_ := Aside0.mk ((by rw [hg]; exact (below_size (be_ HB.out)) : w.heap.size ≤ gb193)); clear HB; have HB := n0_; have BK193 := n1_; have GW193 := n2_; have GE193 := n3_; clear n0_ n1_ n2_ n3_; clear hb hbox hg; have hcz14_0 : w13.cell? ⟨gb193, 0, none⟩ = some (.string a0_0) := (blk_cell BK193.out 0).trans rfl; have hcz14_1 : w13.cell? ⟨gb193, 1, none⟩ = some (.string a0_1) := (blk_cell BK193.out 1).trans rfl; have hfz14_0 := blk_frozen BK193.out 0; have hfz14_1 := blk_frozen BK193.out 1) | ((with_reducible refine gate_callee (f := 99) rfl ?_); refine goesL_ (some 18) rfl rfl Try.func99 (by kernel_rfl) rfl #[.agg #[.string a0_0, .string a0_1], .int .i64 a1, .int .i64 a2, .slice A3 l3.length c3] rfl al_ ?_; (with_reducible refine (impl_climb.calls k a0_0 a0_1 a1 a2 _ _ l3 t194 true _ ?side1 ?side2 A5.out).mono ?_); (case side1 => exact kc_ (Kd.C_below HR3.out HB.out)); (case side2 => exact HC3.out); rintro e w15 ⟨v195, rfl, ho0, hb⟩; refine ⟨_, rfl, ?_⟩; have n0_ := Aside0.mk (Kd.N_lower (Kd.N_mono (ok' := fun k_ => (w.heap.size ≤ k_) ∧ k_ ≠ gb193) ho0 (fun k_ hk_ => ⟨(Nat.le_trans (below_size (bs_ HB.out GE193.out)) hk_), (Kd.freshB (g := gb193) (o := .cells #[.string a0_0, .string a0_1] 26 (0, 0)) (bk_ BK193.out) k_ hk_)⟩)) (below_size (bs_ HB.out GE193.out))); have n1_ := Aside0.mk (blk_below (g := gb193) (o := .cells #[.string a0_0, .string a0_1] 26 (0, 0)) (bk_ BK193.out) hb); have n2_ := Aside0.mk (below_step (bs_ HB.out GE193.out) hb); clear BK193; clear HB; have HO196 := n0_; have BK193 := n1_; have HB := n2_; clear n0_ n1_ n2_; (try clear hb); (try clear hb2); (try clear hk); (try clear hi); (try clear ho0); obtain ⟨Ao16, co16, eo16⟩ := Kd.N_slice HO196.out; subst eo16; have p198 : 0 ≤ ((ji7) : Int) := of_decide_eq_true (by first | (with_reducible assumption) | assumption); have q198 : (ji7) < (t194.length : Int) := of_decide_eq_true (by first | (with_reducible assumption) | assumption); obtain ⟨ad198, A198_0, c198_0, e198, hx198_0, hl198_0, hi198_0⟩ := at_L3 (Kd.N_reads' HO196.out).2.2 (ji7) p198 q198; cases e198; obtain ⟨ce198, hce198, hMe198, hcc198⟩ := Kd.N_get HO196.out [] (ji7) p198 (by first | exact q198 | exact of_decide_eq_true (by first | (with_reducible assumption) | assumption) | (have e_ := (Kd.N_reads' HO196.out).1; omega)); obtain ⟨ua198_0, uc198_0, rfl, ul198_0, ge198_0⟩ := Kd.FK_slice_open hMe198; have hv198_0 := hcc198 0 _ rfl; rw [Nat.add_zero, show ((Kd.slice 5 (Kd.int .u8))).sz = 1 from rfl, Nat.mul_one] at hv198_0; replace hv198_0 := Option.some.inj (hv198_0.symm.trans hx198_0); injection hv198_0 with hva_ hvn_ hvc_; rw [hva_] at ge198_0; rw [hvc_] at ul198_0; have HL198_0 := Aside0.mk (show Kd.V (Kd.int .u8) 5 _ w.heap.size _ _ (rd_L3 t194 (ji7)) from Kd.V_mk ul198_0 ge198_0); clear hva_ hvn_ hvc_ ge198_0 ul198_0; clear hcc198 hce198; have HR198_0 := Aside0.mk hi198_0; have HC198_0 := Aside0.mk hl198_0; clear hi198_0 hl198_0; replace p198 := eq_true p198; replace q198 := eq_true q198) | ((with_reducible refine gate_callee (f := 67) rfl ?_); refine goesL_ (some 29) rfl rfl Try.func67 (by kernel_rfl) rfl #[.slice A198_0 (rd_L3 t194 (ji7)).length c198_0] rfl (by (try simp only [List.map_toArray, List.map_cons, List.map_nil]); first | done | (simp only [hji7]; rfl) | rfl | (simp only [List.length_drop, List.length_take]; rfl)) ?_; (with_reducible refine (impl_Digest.calls k _ _ (rd_L3 t194 (ji7)) t199 _ ?side1 ?side2 A10.out).mono ?_); (case side1 => repeat (first | exact (by repeat (first | (with_reducible exact HR198_0.out) | (with_reducible refine Kd.C_alloc ?_ _) | (with_reducible refine Kd.C_drewN ?_ _) | (with_reducible refine Kd.C_drew ?_) | exact HR198_0.out)) | (with_reducible refine Kd.C_alloc ?_ _) | (with_reducible refine Kd.C_drewN ?_ _) | (with_reducible refine Kd.C_drew ?_))); (case side2 => exact HC198_0.out); rintro e w17 ⟨rfl, hb⟩; refine ⟨_, rfl, ?_⟩; have n0_ := Aside0.mk (Kd.N_below (by (with_reducible repeat (first | apply Kd.N_alloc | apply Kd.N_drewN | apply Kd.N_drew)); exact HO196.out) hb); have n1_ := Aside0.mk (Kd.V_below (by (with_reducible repeat (first | apply Kd.V_alloc | apply Kd.V_drewN | apply Kd.V_drew)); exact HL198_0.out) hb); have n2_ := Aside0.mk (blk_below (g := gb193) (o := .cells #[.string a0_0, .string a0_1] 26 (0, 0)) (bk_ BK193.out) hb); have n3_ := Aside0.mk (Kd.C_below (by repeat (first | (with_reducible exact HR198_0.out) | (with_reducible refine Kd.C_alloc ?_ _) | (with_reducible refine Kd.C_drewN ?_ _) | (with_reducible refine Kd.C_drew ?_) | exact HR198_0.out)) hb); have n4_ := Aside0.mk (below_step (bs_ HB.out GE193.out) hb); clear HO196; clear HL198_0; clear BK193; clear HR198_0; clear HB; have HO196 := n0_; have HL198_0 := n1_; have BK193 := n2_; have HR198_0 := n3_; have HB := n4_; clear n0_ n1_ n2_ n3_ n4_; (try clear hb); (try clear hb2); (try clear hk); (try clear hi)) | ((with_reducible refine gate_callee (f := 59) rfl ?_); refine goesL_ (some 33) rfl rfl Try.func59 (by kernel_rfl) rfl #[.int .i64 a2, .string t199] rfl al_ ?_; (with_reducible refine (impl_rootBytes.calls k a2 t199 t200 _ A11.out).mono ?_); rintro e w18 ⟨v201, rfl, ho0, hb⟩; refine ⟨_, rfl, ?_⟩; have n0_ := Aside0.mk (Kd.N_elder' (by (with_reducible repeat (first | apply Kd.N_alloc | apply Kd.N_drewN | apply Kd.N_drew)); exact HO196.out) (Kd.R_base ho0) hb); have n1_ := Aside0.mk (Kd.V_elder' (by (with_reducible repeat (first | apply Kd.V_alloc | apply Kd.V_drewN | apply Kd.V_drew)); exact HL198_0.out) (Kd.R_base ho0) hb); have n2_ := Aside0.mk (Kd.R_lower (Kd.R_newM (M := fun k_ => (w.heap.size ≤ k_)) ho0 (below_size (bs_ HB.out GE193.out)) (fun k_ h_ => h_)) (below_size (bs_ HB.out GE193.out))); have n3_ := Aside0.mk (blk_below (g := gb193) (o := .cells #[.string a0_0, .string a0_1] 26 (0, 0)) (bk_ BK193.out) hb); have n4_ := Aside0.mk (Kd.C_below (by repeat (first | (with_reducible exact HR198_0.out) | (with_reducible refine Kd.C_alloc ?_ _) | (with_reducible refine Kd.C_drewN ?_ _) | (with_reducible refine Kd.C_drew ?_) | exact HR198_0.out)) hb); have n5_ := Aside0.mk (below_step (bs_ HB.out GE193.out) hb); clear HO196; clear HL198_0; clear BK193; clear HR198_0; clear HB; have HO196 := n0_; have HL198_0 := n1_; have HO202 := n2_; have BK193 := n3_; have HR198_0 := n4_; have HB := n5_; clear n0_ n1_ n2_ n3_ n4_ n5_; (try clear hb); (try clear hb2); (try clear hk); (try clear hi); (try clear ho0); obtain ⟨Ao20, co20, eo20⟩ := Kd.R_slice HO202.out; subst eo20) | ((with_reducible refine gate_builtin (b := .append) (xs := #[.tmp 30, .tmp 34]) rfl ?_); at_builtin; refine Kd.N_append (Kd.slice 5 (Kd.int .u8)) (w0 := w) w.heap.size rfl (.tmp 30) (.tmp 34) 83 22 (.slice none 0 0) 24 rfl Try.underlying83 info22 rfl (by decide) (by omega) (.slice (some ad198) t194.length co16) t194 t200 [.slice Ao20 t200.length co20] (fun k_ => (w.heap.size ≤ k_) ∧ k_ ≠ gb193) (fun k_ => ((fun k_ => (w.heap.size ≤ k_) ∧ k_ ≠ gb193)) k_ ∧ some k_ ≠ (.slice (some ad198) t194.length co16 : Value).ownBlock) rfl rfl ?aP (fun _ hk => hk) ?aF ?aO ?aB ?aS ?aL ?_; (case aP => exact (Kd.FK_slice_mk (Kd.R_reads' (Kd.R_mono (ok' := (fun k_ => ((fun k_ => (w.heap.size ≤ k_) ∧ k_ ≠ gb193)) k_ ∧ some k_ ≠ (.slice (some ad198) t194.length co16 : Value).ownBlock)) (Kd.R_types (Kd.R_apart' (HO202.out) (Kd.N_typed HO196.out) (by decide)) BK193.out (by decide)) (fun k_ hk => ⟨⟨hk.1.1.1, hk.2⟩, hk.1.2⟩))).2.1 (Kd.R_F (Kd.R_mono (ok' := (fun k_ => ((fun k_ => (w.heap.size ≤ k_) ∧ k_ ≠ gb193)) k_ ∧ some k_ ≠ (.slice (some ad198) t194.length co16 : Value).ownBlock)) (Kd.R_types (Kd.R_apart' (HO202.out) (Kd.N_typed HO196.out) (by decide)) BK193.out (by decide)) (fun k_ hk => ⟨⟨hk.1.1.1, hk.2⟩, hk.1.2⟩))))); (case aB => exact (bs_ HB.out GE193.out)); (case aF => exact (fun k_ hk => ⟨(Nat.le_trans (below_size (bs_ HB.out GE193.out)) hk), Kd.freshB (g := gb193) (o := .cells #[.string a0_0, .string a0_1] 26 (0, 0)) (bk_ BK193.out) k_ hk⟩)); (case aO => exact (by (with_reducible repeat (first | apply Kd.N_alloc | apply Kd.N_drewN | apply Kd.N_drew)); exact Kd.N_mono HO196.out (fun _ hk => ⟨hk.1.1, hk.1.2⟩))); (case aS => exact (below_size (bs_ HB.out GE193.out))); (case aL => have := LMc12.out; omega); intro v204 w19 ho hb hg hat; rw [← Ny203.out] at ho; have n0_ := Aside0.mk (blk_grown (g := gb193) (o := .cells #[.string a0_0, .string a0_1] 26 (0, 0)) (bk_ BK193.out) hg (Kd.N_ne HO196.out BK193.out (by decide))); have n1_ := Aside0.mk (Kd.V_afterv (ok := (fun k_ => (w.heap.size ≤ k_) ∧ some k_ ≠ (.slice Ao20 t200.length co20 : Value).ownBlock ∧ k_ ≠ gb193)) (by (with_reducible repeat (first | apply Kd.V_alloc | apply Kd.V_drewN | apply Kd.V_drew)); exact Kd.V_mono HL198_0.out (fun _ hk => ⟨⟨hk.1.1.1, ⟨hk.2, hk.1.1.2⟩⟩, hk.1.2⟩)) hg hat); have n2_ := Aside0.mk (hb); have n3_ := Aside0.mk (ho); clear BK193; clear HL198_0; clear HB; clear HO196; clear HO202; have BK193 := n0_; have HL198_0 := n1_; have HB := n2_; have HO205 := n3_; clear n0_ n1_ n2_ n3_; clear ho hb hg hat))
    go_ret2
    exact ⟨_, by first | rfl | (simp [errW_none, errW_some] <;> rfl) | (simp only [← hji7]; first | rfl | (simp [errW_none, errW_some] <;> rfl)) | (simp [*, errW_none, errW_some] <;> rfl), by (with_reducible repeat (first | apply Kd.N_alloc | apply Kd.N_drewN | apply Kd.N_drew)); exact Kd.N_mono HO205.out (fun _ hk => hk.1), bs_ HB.out GE193.out⟩
  · replace c6 := Bool.eq_false_iff.mpr c6
    subst c6
    have H1 : (some (([] : List (List Int)), false)) = some (r1, r2) := by rw [if_neg (show ¬ (false = true) by decide)] at H; exact H
    clear H
    have H := H1
    clear H1
    simp only [Option.some.injEq, Prod.mk.injEq] at H
    obtain ⟨rfl, rfl⟩ := H
    go_enter Try.func56, Try.ntmps56
    go_wp2_with (first | ((with_reducible refine gate_dst (N := 4) rfl ?_); refine box_event ?hg (N := 4) ?hd (cs := #[.string a0_0, .string a0_1]) (t := 26) ?hr ?_; (case hd => rfl); (case hg => rfl); (case hr => first | (go_simp; done) | (go_simp; rfl)); intro gb193 hg w21 hbox hb; have n0_ := Aside0.mk (below_step (be_ HB.out) hb); have n1_ := Aside0.mk (hbox); have n2_ := Aside0.mk ((by rw [hg]; exact (below_size (be_ HB.out)) : w.heap.size ≤ gb193)); have n3_ := Aside0.mk ((by rw [hg]; exact (below_size (be_ HB.out)) : w.heap.size ≤ gb193)); clear HB; have HB := n0_; have BK193 := n1_; have GW193 := n2_; have GE193 := n3_; clear n0_ n1_ n2_ n3_; clear hb hbox hg; have hcz22_0 : w21.cell? ⟨gb193, 0, none⟩ = some (.string a0_0) := (blk_cell BK193.out 0).trans rfl; have hcz22_1 : w21.cell? ⟨gb193, 1, none⟩ = some (.string a0_1) := (blk_cell BK193.out 1).trans rfl; have hfz22_0 := blk_frozen BK193.out 0; have hfz22_1 := blk_frozen BK193.out 1) | ((with_reducible refine gate_callee (f := 99) rfl ?_); refine goesL_ (some 18) rfl rfl Try.func99 (by kernel_rfl) rfl #[.agg #[.string a0_0, .string a0_1], .int .i64 a1, .int .i64 a2, .slice A3 l3.length c3] rfl al_ ?_; (with_reducible refine (impl_climb.calls k a0_0 a0_1 a1 a2 _ _ l3 t194 false _ ?side1 ?side2 A5.out).mono ?_); (case side1 => exact kc_ (Kd.C_below HR3.out HB.out)); (case side2 => exact HC3.out); rintro e w23 ⟨v195, rfl, ho0, hb⟩; refine ⟨_, rfl, ?_⟩; have n0_ := Aside0.mk (Kd.N_lower (Kd.N_mono (ok' := fun k_ => (w.heap.size ≤ k_) ∧ k_ ≠ gb193) ho0 (fun k_ hk_ => ⟨(Nat.le_trans (below_size (bs_ HB.out GE193.out)) hk_), (Kd.freshB (g := gb193) (o := .cells #[.string a0_0, .string a0_1] 26 (0, 0)) (bk_ BK193.out) k_ hk_)⟩)) (below_size (bs_ HB.out GE193.out))); have n1_ := Aside0.mk (blk_below (g := gb193) (o := .cells #[.string a0_0, .string a0_1] 26 (0, 0)) (bk_ BK193.out) hb); have n2_ := Aside0.mk (below_step (bs_ HB.out GE193.out) hb); clear BK193; clear HB; have HO196 := n0_; have BK193 := n1_; have HB := n2_; clear n0_ n1_ n2_; (try clear hb); (try clear hb2); (try clear hk); (try clear hi); (try clear ho0)))
    go_ret2
    exact ⟨_, by first | rfl | (simp [errW_none, errW_some] <;> rfl) | (simp [*, errW_none, errW_some] <;> rfl), by first | exact Kd.S_nil _ _ _ _ _ | exact Kd.N_nil _ _ _ _ _ | exact Kd.V_nil _ _ _ _ _ | exact Kd.Q_nil _ _ _ _ _ | exact Kd.R_nil _ _ _ _ _, bs_ HB.out GE193.out⟩

end Go.Proofs.Ytgaalomhipfgjaa.P
