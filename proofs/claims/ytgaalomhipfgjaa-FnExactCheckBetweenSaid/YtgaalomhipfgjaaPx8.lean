-- Written by wip/xp/xp.py over the kit's print; Lean checks it.
import Derived.Test.YtgaalomhipfgjaaPx0
import Derived.Test.YtgaalomhipfgjaaPx5
import Derived.Test.YtgaalomhipfgjaaPx6
import Derived.Test.YtgaalomhipfgjaaPx7
namespace Go.Proofs.Ytgaalomhipfgjaa.P
open Go.RowKit Go.Proofs.YtgaalomhipfgjaaW.PrintWords Go.Proofs.YtgaalomhipfgjaaW.PrintLast Go.Proofs.YtgaalomhipfgjaaW.PrintMore
attribute [local go_sem] max2_int min2_int max_two min_two max_three min_three max_four min_four   -- for this text's walks alone
set_option linter.unusedVariables false
set_option linter.unusedSimpArgs false

/-! ###  impl_putText: function 118 -/
def impl_putText.f (k : Nat) (l0 : List Int) (a1 : ByteArray) : Option (List Int) := (impl_putNum.f k l0 (a1.size : Int)).bind fun t457 => (if t457.length + a1.size < 140737488355328 then (some (t457 ++ bytesOf a1)) else (none))
set_option maxHeartbeats 8000000 in
set_option maxRecDepth 100000 in
theorem impl_putText.calls (k : Nat) (P0_ : Nat → Prop) (u9000_ : Value) (l0 : List Int) (a1 : ByteArray) (r : List Int) (w0 w : World) (hB : Below w0.heap.size w0 w) (ho0 : Kd.R (Kd.int .u8) 5 w w0.heap.size P0_ u9000_ l0) (h : impl_putText.f k l0 a1 = some r) :
  Calls Try.prog 118 #[u9000_, .string a1] w fun e w' => ∃ v0_ : Value, e = .returned (v0_) ∧ Kd.R (Kd.int .u8) 5 w' w0.heap.size (fun k_ => (P0_ k_ ∨ w.heap.size ≤ k_)) v0_ r ∧ Below w0.heap.size w0 w' ∧ Kept w w' (fun k_ => P0_ k_) := by
  have HO0 := q_ (show Kd.R (Kd.int .u8) 5 w w0.heap.size (fun k_ => (P0_ k_ ∨ w.heap.size ≤ k_)) u9000_ l0 from Kd.R_mono ho0 (fun k_ hk => (.inl hk)))
  have HK := q_ (Kept.refl w (fun k_ => P0_ k_))
  have HW0 := Aside0.mk hB.size
  have HB := Aside0.mk hB
  clear hB
  have H : ((impl_putNum.f k l0 (a1.size : Int)).bind fun t457 => (if t457.length + a1.size < 140737488355328 then (some (t457 ++ bytesOf a1)) else (none))) = some r := h
  clear h
  replace H := Option.bind_eq_some_iff.mp H
  obtain ⟨t457, A30, H⟩ := H
  have A3 := Aside0.mk A30
  clear A30
  by_cases c4 : t457.length + a1.size < 140737488355328
  rotate_left
  · rw [if_neg c4] at H; exact absurd H (by simp)
  rw [if_pos c4] at H
  have LMc4 := Aside0.mk c4
  clear c4
  obtain ⟨y460, hy460⟩ : ∃ y_ : List Int, y_ = (t457 ++ bytesOf a1) := ⟨_, rfl⟩
  replace H : (some y460) = some r := ry_ hy460 H
  have Ny460 := Aside0.mk hy460
  clear hy460
  obtain rfl := Option.some.inj H
  obtain ⟨Ao5, co5, eo5⟩ := Kd.R_slice HO0.out
  subst eo5
  go_enter Try.func118, Try.ntmps118
  go_wp2_with (first | ((with_reducible refine gate_callee (f := 101) rfl ?_); refine gl_ (some 8) Try.func101 #[.slice Ao5 l0.length co5, .int .i64 (a1.size : Int)] rfl al_ ?_; (with_reducible refine (impl_putNum.calls k (fun k_ => some k_ = (.slice Ao5 l0.length co5 : Value).ownBlock) (.slice Ao5 l0.length co5) l0 (a1.size : Int) t457 w0 _ ?side1 ?side2 A3.out).mono ?_); (case side1 => repeat (first | (with_reducible first | exact HB.out | apply below_alloc | apply pw_below_drewN | apply below_drew1) | exact HB.out)); (case side2 => exact Kd.R_tight rfl HO0.out); rintro e w6 ⟨v458, rfl, ho0, hb, hkp⟩; refine ⟨_, rfl, ?_⟩; have n0_ := q_ (Kd.R_mono (ok' := fun k_ => (P0_ k_ ∨ w.heap.size ≤ k_)) ho0 (fun k_ hk_ => Or.elim hk_ (fun hs_ => (HO0.out.1 k_ (hs_).symm)) (fun hn_ => (.inr (Nat.le_trans (by first | exact HK.out.1 | exact (show Kept w _ (fun k_ => P0_ k_) from by repeat (first | (with_reducible first | exact HK.out | apply Kept.alloc | apply Kept.drewN | apply Kept.drew) | exact HK.out)).1) hn_))))); have n1_ := q_ (Kept.then_ (S := (fun k_ => P0_ k_)) (by repeat (first | (with_reducible first | exact HK.out | apply Kept.alloc | apply Kept.drewN | apply Kept.drew) | exact HK.out)) hkp (fun k_ hs_ => (fun e_ => (HO0.out.1 k_ e_.symm)) hs_)); have n2_ := q_ (hb); clear HK; clear HB; clear HO0; have HO459 := n0_; have HK := n1_; have HB := n2_; clear n0_ n1_ n2_; (try clear hb); (try clear hkp); (try clear ho0)) | ((with_reducible refine gate_builtin (b := .append) (xs := #[.tmp 8, _]) rfl ?_); at_builtin; refine Kd.R_append_str (w0 := w0) w0.heap.size rfl (.tmp 8) _ 22 9 5 rfl Try.underlying22 Try.underlying9 info5 v458 t457 a1 (fun k_ => (P0_ k_ ∨ w.heap.size ≤ k_)) rfl rfl ?aF ?aO ?aB ?aS ?aL ?_; (case aB => exact (be_ HB.out)); (case aF => exact (fun k_ hk => (.inr (Nat.le_trans (by first | exact HK.out.1 | exact (show Kept w _ (fun k_ => P0_ k_) from by repeat (first | (with_reducible first | exact HK.out | apply Kept.alloc | apply Kept.drewN | apply Kept.drew) | exact HK.out)).1) hk)))); (case aO => exact (kr_ HO459.out)); (case aS => exact (below_size (be_ HB.out))); (case aL => have := LMc4.out; omega); intro v461 w7 ho hb hg hat; rw [← Ny460.out] at ho; have n0_ := q_ (hb); have n1_ := q_ (Kept.of_grown (S := (fun k_ => P0_ k_)) hg (by repeat (first | (with_reducible first | exact HK.out | apply Kept.alloc | apply Kept.drewN | apply Kept.drew) | exact HK.out)) (fun k_ e_ => (HO459.out.1 k_ e_))); have n2_ := q_ (ho); clear HB; clear HK; clear HO459; have HB := n0_; have HK := n1_; have HO462 := n2_; clear n0_ n1_ n2_; clear ho hb hg hat))
  go_ret
  exact ⟨_, rf_, by (with_reducible repeat (first | apply Kd.R_alloc | apply Kd.R_drewN | apply Kd.R_drew)); exact HO462.out, be_ HB.out, by repeat (first | (with_reducible first | exact HK.out | apply Kept.alloc | apply Kept.drewN | apply Kept.drew) | exact HK.out)⟩

/-! ###  impl_leafBytes: function 86 -/
def impl_leafBytes.f (k : Nat) (a0_0 : ByteArray) (a0_1 : ByteArray) : Option (List Int) := (impl_putText.f k (([0] : List Int)) a0_0).bind fun t467 => ((impl_putText.f k t467 a0_1).bind fun t470 => (some t470))
def impl_leafBytes.T1 : Bool × List (List Nat × List Nat) := (true, [([], []), ([], []), ([1], [1]), ([0, 2], [0, 2]), ([], []), ([4], [4]), ([3, 5, 3], [3, 5]), ([6, 6, 0, 1, 2, 3, 4, 5, 6], [6])])
def impl_leafBytes.B1 : List Nat := [0, 0, 2, 7, 0, 16, 63, 127]
theorem impl_leafBytes.tab1 : rtab .any (opsOf Try.f86 1) = impl_leafBytes.T1 := by kernel_rfl
theorem impl_leafBytes.bits1 : waitsOk impl_leafBytes.T1.2 impl_leafBytes.B1 = true := by kernel_rfl
set_option maxHeartbeats 8000000 in
set_option maxRecDepth 100000 in
theorem impl_leafBytes.calls (k : Nat) (a0_0 : ByteArray) (a0_1 : ByteArray) (r : List Int) (w : World) (h : impl_leafBytes.f k a0_0 a0_1 = some r) :
  Calls Try.prog 86 #[.agg #[.string a0_0, .string a0_1]] w fun e w' => ∃ v0_ : Value, e = .returned (v0_) ∧ Kd.R (Kd.int .u8) 5 w' w.heap.size (fun _ => True) v0_ r ∧ Below w.heap.size w w' := by
  have hu26 := Try.underlying26
  have HB := q_ (Below.refl w.heap.size w)
  have H : ((impl_putText.f k (([0] : List Int)) a0_0).bind fun t467 => ((impl_putText.f k t467 a0_1).bind fun t470 => (some t470))) = some r := h
  clear h
  obtain ⟨y464, hy464⟩ : ∃ y_ : List Int, y_ = (([0] : List Int)) := ⟨_, rfl⟩
  replace H : ((impl_putText.f k y464 a0_0).bind fun t467 => ((impl_putText.f k t467 a0_1).bind fun t470 => (some t470))) = some r := ry_ hy464 H
  have Ny464 := Aside0.mk hy464
  clear hy464
  replace H := Option.bind_eq_some_iff.mp H
  obtain ⟨t467, A20, H⟩ := H
  have A2 := Aside0.mk A20
  clear A20
  replace H := Option.bind_eq_some_iff.mp H
  obtain ⟨t470, A30, H⟩ := H
  have A3 := Aside0.mk A30
  clear A30
  obtain rfl := Option.some.inj H
  go_enter Try.func86, Try.ntmps86
  try go_wp2_with (first | ((with_reducible refine gate_dst (N := 1) rfl ?_); refine box_event rfl (N := 1) rfl (cs := #[.string a0_0, .string a0_1]) (t := 26) hr_ ?_; intro gb463 hg w4 hbox hb; have BK463 := q_ (hbox); have GW463 := q_ ((by rw [hg]; exact (below_size (be_ HB.out)) : w.heap.size ≤ gb463)); have GE463 := q_ ((by rw [hg]; exact (below_size (be_ HB.out)) : w.heap.size ≤ gb463)); replace HB := q_ (below_step (be_ HB.out) hb); clear hb hbox hg))
  replace BK463 := q_ (blk_drew BK463.out)
  replace HB := q_ (below_drew1 HB.out)
  refine start_ (n := 8) (S := fun w' => w'.cell? ⟨gb463, 0, none⟩ = some (.string a0_0) ∧ w'.cell? ⟨gb463, 1, none⟩ = some (.string a0_1)) (ds := []) (bq_ 0 8) (by kernel_rfl) rfl rfl ⟨(blk_cell BK463.out 0).trans rfl, (blk_cell BK463.out 1).trans rfl⟩ (fun hHeld => ?_); refine with_tabW impl_leafBytes.tab1 impl_leafBytes.bits1 (fun HT_ HW_ => ?_)
  generalize w4.drew = w5 at BK463 HB hHeld ⊢
  refine pu_ 1 (some 4) (br_ [0, 1, 1, 6]) HT_ ?_
  refine pu_ 4 (some 7) (br_ [0, 1, 1, 2, 1, 3]) HT_ ?_
  refine take_ (i := 2) (N := some 5) (v := ?_) (a' := ?_) (br_ [0, 1, 2, 1, 1, 3]) rfl rfl (take_ofW HT_.out HW_.out (by kernel_rfl)) (fun _ _ _ h => h) (Or.inl ⟨by rfl, ?_⟩) hHeld ?_ ?_
  rotate_left
  · rintro w' ⟨s0, s1⟩
    go_simp
    with_reducible rfl
  rotate_left
  · simp only [Act.put, sa_, sz_, ss_, i64_w, i32_w]; rfl
  refine take_ (i := 5) (N := some 8) (v := ?_) (a' := ?_) (br_ [0, 1, 2, 1, 2, 2]) rfl rfl (take_ofW HT_.out HW_.out (by kernel_rfl)) (fun _ _ _ h => h) (Or.inl ⟨by rfl, ?_⟩) hHeld ?_ ?_
  rotate_left
  · rintro w' ⟨s0, s1⟩
    go_simp
    with_reducible rfl
  rotate_left
  · simp only [Act.put, sa_, sz_, ss_, i64_w, i32_w]; rfl
  refine on_ 0 (some 3) (br_ [3, 1, 2, 2]) HT_ (fun K hK => ?_)
  refine Kd.R_lit_step (Kd.int .u8) _ 5 ?hg (N := 3) ?hd (xs := ([0] : List Int)) (inner := [.int .u8 0]) (ok := fun _ => True) (okp := fun _ => True) ?hr ?hp (fun _ hk => hk) trivial (Below.refl _ _) (Nat.le_refl _) (by simp) ?_; (case hd => rfl); (case hg => rfl); (case hr => first | (go_simp; done) | (go_simp; rfl)); (case hp => exact (Reps.one (show Kd.M (Kd.int .u8) _ _ _ 0 [.int .u8 0] from rfl) (Reps.none _ _)))
  intro v465 w6 ho7 hb hg_ hnew_
  clear hg_ hnew_
  (first | rw [← Ny464.out] at ho7 | (simp only [Int.reduceToNat] at ho7; rw [← Ny464.out] at ho7))
  have HO466 := q_ (Kd.R_lower ho7 (below_size (bs_ HB.out GE463.out)))
  replace BK463 := q_ (bb_ BK463.out hb)
  replace HB := q_ (below_step (bs_ HB.out GE463.out) hb)
  clear hb ho7
  obtain ⟨Ao8, co8, eo8⟩ := Kd.R_slice HO466.out
  (first | subst eo8 | (injection eo8 with f1_ f2_ f3_; have f4_ := f1_.symm; have f5_ := f3_.symm; clear f1_ f2_ f3_; subst f4_; subst f5_))
  refine hK.out _ _ ⟨(blk_cell BK463.out 0).trans rfl, (blk_cell BK463.out 1).trans rfl⟩ (fun hHeld => ?_)
  clear hK K
  refine nm_ ?_
  refine on_ 3 (some 6) (bq_ 6 2) HT_ (fun K hK => ?_)
  refine goes_ Try.func118 (by kernel_rfl) rfl #[.slice Ao8 y464.length co8, .string a0_0] (by rfl) rfl rfl al_ ?_
  with_reducible refine (impl_putText.calls k (fun k_ => some k_ = (.slice Ao8 y464.length co8 : Value).ownBlock) (.slice Ao8 y464.length co8) y464 a0_0 t467 w _ ?side1 ?side2 A2.out).mono ?_
  (case side1 => repeat (first | (with_reducible first | exact HB.out | apply below_alloc | apply pw_below_drewN | apply below_drew1 | refine below_set ?_ GE463.out) | exact HB.out))
  (case side2 => exact Kd.R_tight rfl HO466.out)
  rintro e w9 ⟨v468, rfl, ho0, hb, hkp⟩
  refine ⟨_, rfl, ?_⟩
  have n0_ := q_ (blk_kept (bk_ BK463.out) hkp (fun hs_ => (fun e_ => (Kd.R_ne HO466.out BK463.out (by decide)) e_) hs_))
  have n1_ := q_ (Kd.R_mono (ok' := fun k_ => True) ho0 (fun k_ hk_ => trivial))
  have n2_ := q_ (hb)
  clear BK463
  clear HB
  clear HO466
  have BK463 := n0_
  have HO469 := n1_
  have HB := n2_
  clear n0_ n1_ n2_
  (try clear hb)
  (try clear hkp)
  (try clear ho0)
  obtain ⟨Ao10, co10, eo10⟩ := Kd.R_slice HO469.out
  (first | subst eo10 | (injection eo10 with f1_ f2_ f3_; have f4_ := f1_.symm; have f5_ := f3_.symm; clear f1_ f2_ f3_; subst f4_; subst f5_))
  refine hK.out _ _ ⟨(blk_cell BK463.out 0).trans rfl, (blk_cell BK463.out 1).trans rfl⟩ (fun hHeld => ?_)
  clear hK K
  refine nm_ ?_
  refine on_ 6 (some 9) (bq_ 7 1) HT_ (fun K hK => ?_)
  refine goes_ Try.func118 (by kernel_rfl) rfl #[.slice Ao10 t467.length co10, .string a0_1] (by rfl) rfl rfl al_ ?_
  with_reducible refine (impl_putText.calls k (fun k_ => some k_ = (.slice Ao10 t467.length co10 : Value).ownBlock) (.slice Ao10 t467.length co10) t467 a0_1 t470 w _ ?side1 ?side2 A3.out).mono ?_
  (case side1 => repeat (first | (with_reducible first | exact HB.out | apply below_alloc | apply pw_below_drewN | apply below_drew1 | refine below_set ?_ GE463.out) | exact HB.out))
  (case side2 => exact Kd.R_tight rfl HO469.out)
  rintro e w11 ⟨v471, rfl, ho0, hb, hkp⟩
  refine ⟨_, rfl, ?_⟩
  have n0_ := q_ (blk_kept (bk_ BK463.out) hkp (fun hs_ => (fun e_ => (Kd.R_ne HO469.out BK463.out (by decide)) e_) hs_))
  have n1_ := q_ (Kd.R_mono (ok' := fun k_ => True) ho0 (fun k_ hk_ => trivial))
  have n2_ := q_ (hb)
  clear BK463
  clear HB
  clear HO469
  have BK463 := n0_
  have HO472 := n1_
  have HB := n2_
  clear n0_ n1_ n2_
  (try clear hb)
  (try clear hkp)
  (try clear ho0)
  refine hK.out _ _ ⟨(blk_cell BK463.out 0).trans rfl, (blk_cell BK463.out 1).trans rfl⟩ (fun hHeld => ?_)
  clear hK K
  refine nm_ ?_
  refine pu_ 7 (some 2) (bq_ 8 0) HT_ ?_
  refine done_ (done_of HT_.out (by kernel_rfl)) ?_
  try go_wp2
  go_ret
  exact ⟨_, rf_, by (with_reducible repeat (first | apply Kd.R_alloc | apply Kd.R_drewN | apply Kd.R_drew)); exact HO472.out, bs_ HB.out GE463.out⟩

/-! ###  impl_LeafOf: function 35 -/
def impl_LeafOf.f (k : Nat) (a0_0 : ByteArray) (a0_1 : ByteArray) : Option (ByteArray) := (impl_leafBytes.f k a0_0 a0_1).bind fun t474 => ((impl_Digest.f k t474).bind fun t477 => (some t477))
set_option maxHeartbeats 8000000 in
set_option maxRecDepth 100000 in
theorem impl_LeafOf.calls (k : Nat) (a0_0 : ByteArray) (a0_1 : ByteArray) (r : ByteArray) (w : World) (h : impl_LeafOf.f k a0_0 a0_1 = some r) :
  Calls Try.prog 35 #[.agg #[.string a0_0, .string a0_1]] w fun e w' => e = .returned (.string r) ∧ Below w.heap.size w w' := by
  have hu26 := Try.underlying26
  have HB := q_ (Below.refl w.heap.size w)
  have H : ((impl_leafBytes.f k a0_0 a0_1).bind fun t474 => ((impl_Digest.f k t474).bind fun t477 => (some t477))) = some r := h
  clear h
  replace H := Option.bind_eq_some_iff.mp H
  obtain ⟨t474, A20, H⟩ := H
  have A2 := Aside0.mk A20
  clear A20
  replace H := Option.bind_eq_some_iff.mp H
  obtain ⟨t477, A30, H⟩ := H
  have A3 := Aside0.mk A30
  clear A30
  obtain rfl := Option.some.inj H
  go_enter Try.func35, Try.ntmps35
  go_wp2_with (first | ((with_reducible refine gate_dst (N := 1) rfl ?_); refine box_event rfl (N := 1) rfl (cs := #[.string a0_0, .string a0_1]) (t := 26) hr_ ?_; intro gb473 hg w4 hbox hb; have BK473 := q_ (hbox); have GW473 := q_ ((by rw [hg]; exact (below_size (be_ HB.out)) : w.heap.size ≤ gb473)); have GE473 := q_ ((by rw [hg]; exact (below_size (be_ HB.out)) : w.heap.size ≤ gb473)); replace HB := q_ (below_step (be_ HB.out) hb); clear hb hbox hg; obtain ⟨hcz5_0, hcz5_1, hfz5_0, hfz5_1⟩ := bx2_ BK473.out) | ((with_reducible refine gate_callee (f := 86) rfl ?_); refine gl_ (some 4) Try.func86 #[.agg #[.string a0_0, .string a0_1]] rfl al_ ?_; (with_reducible refine (impl_leafBytes.calls k a0_0 a0_1 t474 _ A2.out).mono ?_); rintro e w6 ⟨v475, rfl, ho0, hb⟩; refine ⟨_, rfl, ?_⟩; have HO476 := q_ (Kd.R_lower ho0 (below_size (bs_ HB.out GE473.out))); replace BK473 := q_ (bb_ BK473.out hb); replace HB := q_ (below_step (bs_ HB.out GE473.out) hb); (try clear hb); (try clear ho0); obtain ⟨Ao7, co7, eo7⟩ := Kd.R_slice HO476.out; subst eo7) | ((with_reducible refine gate_callee (f := 67) rfl ?_); refine gl_ (some 5) Try.func67 #[.slice Ao7 t474.length co7] rfl al_ ?_; (with_reducible refine (impl_Digest.calls k _ _ t474 t477 _ ?side1 ?side2 A3.out).mono ?_); (case side1 => exact kc_ (Kd.R_reads' HO476.out).2.2); (case side2 => exact (Kd.R_reads' HO476.out).2.1); rintro e w8 ⟨rfl, hb⟩; refine ⟨_, rfl, ?_⟩; replace HO476 := q_ (Kd.R_below (kr_ HO476.out) hb); replace BK473 := q_ (bb_ BK473.out hb); replace HB := q_ (below_step (bs_ HB.out GE473.out) hb); (try clear hb)))
  go_ret
  exact ⟨rf_, bs_ HB.out GE473.out⟩

/-! ###  impl_half: function 100 -/
def impl_half.l0 : Nat → Int → Int → Option (Int)
  | 0, _, _ => none
  | k + 1, x0, x3 => if (wrap64 (2 * x3)) < x0 then (impl_half.l0 k x0 (wrap64 (x3 * 2))) else (some x3)
def impl_half.f (k : Nat) (a0 : Int) : Option (Int) := impl_half.l0 k a0 1
set_option maxHeartbeats 8000000 in
set_option maxRecDepth 100000 in
theorem impl_half.calls (k : Nat) (a0 : Int) (r : Int) (w : World) (h : impl_half.f k a0 = some r) :
  Calls Try.prog 100 #[.int .i64 a0] w fun e w' => e = .returned (.int .i64 r) ∧ Drawn0 w w' := by
  have H : (impl_half.l0 k a0 1) = some r := h
  clear h
  have H' := Aside0.mk H
  clear H
  go_enter Try.func100, Try.ntmps100
  go_wp2
  go_loopg [3] k (fun kq v3 w' => ∃ (x3_1 : Int), v3 = .int .i64 x3_1 ∧ Aside0 (impl_half.l0 kq a0 x3_1 = some r) ∧ Aside0 (kq ≤ k) ∧ Drawn0 w w')
  case atStart => exact ⟨(1), rs_, H', ⟨Nat.le_refl _⟩, by repeat (first | exact Drawn0.refl _ | apply Drawn0.step)⟩
  case round =>
   clear H'
   try clear c1
   obtain ⟨x3_1, rfl, HA, HK1, ⟨m1, rfl⟩⟩ := hrel
   cases gk with
   | zero => exact absurd HA.out (by simp [impl_half.l0])
   | succ k1 =>
    have H := HA.out
    clear HA
    simp only [impl_half.l0] at H
    by_cases c2 : (wrap64 (2 * x3_1)) < a0
    · rw [if_pos c2] at H
      have c2b0 : decide ((wrap64 (2 * x3_1)) < a0) = true := decide_eq_true c2
      clear c2
      have H' := Aside0.mk H
      clear H
      go_wp2
      go_roundg k1
      case measure => have := HK1.out; omega
      case rel => exact ⟨(wrap64 (x3_1 * 2)), rs_, H', ⟨by have := HK1.out; omega⟩, by repeat (first | exact Drawn0.refl _ | apply Drawn0.step)⟩
    · rw [if_neg c2] at H
      have c2b0 : decide ((wrap64 (2 * x3_1)) < a0) = false := decide_eq_false c2
      clear c2
      obtain rfl := Option.some.inj H
      go_wp2
      go_ret
      exact ⟨rs_, by repeat (first | exact Drawn0.refl _ | apply Drawn0.step)⟩

/-! ###  impl_nodeBytes: function 124 -/
def impl_nodeBytes.f (a0 : ByteArray) (a1 : ByteArray) : Option (List Int) := (some (([1] : List Int) : List Int)).bind fun y478 => (if y478.length + a0.size < 140737488355328 then ((some (y478 ++ bytesOf a0 : List Int)).bind fun y481 => (if y481.length + a1.size < 140737488355328 then (some (y481 ++ bytesOf a1)) else (none))) else (none))
set_option maxHeartbeats 8000000 in
set_option maxRecDepth 100000 in
theorem impl_nodeBytes.calls (a0 : ByteArray) (a1 : ByteArray) (r : List Int) (w : World) (h : impl_nodeBytes.f a0 a1 = some r) :
  Calls Try.prog 124 #[.string a0, .string a1] w fun e w' => ∃ v0_ : Value, e = .returned (v0_) ∧ Kd.R (Kd.int .u8) 5 w' w.heap.size (fun _ => True) v0_ r ∧ Below w.heap.size w w' := by
  have HB := q_ (Below.refl w.heap.size w)
  have H : ((some (([1] : List Int) : List Int)).bind fun y478 => (if y478.length + a0.size < 140737488355328 then ((some (y478 ++ bytesOf a0 : List Int)).bind fun y481 => (if y481.length + a1.size < 140737488355328 then (some (y481 ++ bytesOf a1)) else (none))) else (none))) = some r := h
  clear h
  obtain ⟨y478, hy478⟩ : ∃ y_ : List Int, y_ = (([1] : List Int)) := ⟨_, rfl⟩
  replace H : (if y478.length + a0.size < 140737488355328 then ((some (y478 ++ bytesOf a0 : List Int)).bind fun y481 => (if y481.length + a1.size < 140737488355328 then (some (y481 ++ bytesOf a1)) else (none))) else (none)) = some r := ry_ hy478 H
  have Ny478 := Aside0.mk hy478
  clear hy478
  by_cases c3 : y478.length + a0.size < 140737488355328
  rotate_left
  · rw [if_neg c3] at H; exact absurd H (by simp)
  rw [if_pos c3] at H
  have LMc3 := Aside0.mk c3
  clear c3
  obtain ⟨y481, hy481⟩ : ∃ y_ : List Int, y_ = (y478 ++ bytesOf a0) := ⟨_, rfl⟩
  replace H : (if y481.length + a1.size < 140737488355328 then (some (y481 ++ bytesOf a1)) else (none)) = some r := ry_ hy481 H
  have Ny481 := Aside0.mk hy481
  clear hy481
  by_cases c4 : y481.length + a1.size < 140737488355328
  rotate_left
  · rw [if_neg c4] at H; exact absurd H (by simp)
  rw [if_pos c4] at H
  have LMc4 := Aside0.mk c4
  clear c4
  obtain ⟨y484, hy484⟩ : ∃ y_ : List Int, y_ = (y481 ++ bytesOf a1) := ⟨_, rfl⟩
  replace H : (some y484) = some r := ry_ hy484 H
  have Ny484 := Aside0.mk hy484
  clear hy484
  obtain rfl := Option.some.inj H
  go_enter Try.func124, Try.ntmps124
  go_wp2_with (first | ((with_reducible refine gate_dst (N := 5) rfl ?_); refine Kd.R_lit (Kd.int .u8) _ 5 ?hg (N := 5) ?hd (xs := ([1] : List Int)) (inner := [.int .u8 1]) (ok := fun _ => True) (okp := fun _ => True) ?hr ?hp (fun _ hk => hk) trivial (Below.refl _ _) (Nat.le_refl _) (by simp) ?_; (case hd => rfl); (case hg => rfl); (case hr => first | (go_simp; done) | (go_simp; rfl)); (case hp => exact (Reps.one (show Kd.M (Kd.int .u8) _ _ _ 1 [.int .u8 1] from rfl) (Reps.none _ _))); intro v479 w5 ho6 hb hg_ hnew_; clear hg_ hnew_; (first | rw [← Ny478.out] at ho6 | (simp only [Int.reduceToNat] at ho6; rw [← Ny478.out] at ho6)); have HO480 := q_ (Kd.R_lower ho6 (below_size (be_ HB.out))); replace HB := q_ (below_step (be_ HB.out) hb); clear hb ho6) | ((with_reducible refine gate_builtin (b := .append) (xs := #[.tmp 5, _]) rfl ?_); at_builtin; refine Kd.R_append_str (w0 := w) w.heap.size rfl (.tmp 5) _ 22 9 5 rfl Try.underlying22 Try.underlying9 info5 v479 y478 a0 (fun _ => True) rfl rfl ?aF ?aO ?aB ?aS ?aL ?_; (case aB => exact (be_ HB.out)); (case aF => exact (fun _ _ => trivial)); (case aO => exact (kr_ HO480.out)); (case aS => exact (below_size (be_ HB.out))); (case aL => have := LMc3.out; omega); intro v482 w7 ho hb hg hat; rw [← Ny481.out] at ho; have n0_ := q_ (hb); have n1_ := q_ (ho); clear HB; clear HO480; have HB := n0_; have HO483 := n1_; clear n0_ n1_; clear ho hb hg hat) | ((with_reducible refine gate_builtin (b := .append) (xs := #[.tmp 7, _]) rfl ?_); at_builtin; refine Kd.R_append_str (w0 := w) w.heap.size rfl (.tmp 7) _ 22 9 5 rfl Try.underlying22 Try.underlying9 info5 v482 y481 a1 (fun _ => True) rfl rfl ?aF ?aO ?aB ?aS ?aL ?_; (case aB => exact (be_ HB.out)); (case aF => exact (fun _ _ => trivial)); (case aO => exact (kr_ HO483.out)); (case aS => exact (below_size (be_ HB.out))); (case aL => have := LMc4.out; omega); intro v485 w8 ho hb hg hat; rw [← Ny484.out] at ho; have n0_ := q_ (hb); have n1_ := q_ (ho); clear HB; clear HO483; have HB := n0_; have HO486 := n1_; clear n0_ n1_; clear ho hb hg hat))
  go_ret
  exact ⟨_, rf_, by (with_reducible repeat (first | apply Kd.R_alloc | apply Kd.R_drewN | apply Kd.R_drew)); exact HO486.out, be_ HB.out⟩

/-! ###  impl_NodeOf: function 102 -/
def impl_NodeOf.f (k : Nat) (a0 : ByteArray) (a1 : ByteArray) : Option (ByteArray) := (impl_nodeBytes.f a0 a1).bind fun t487 => ((impl_Digest.f k t487).bind fun t490 => (some t490))
set_option maxHeartbeats 8000000 in
set_option maxRecDepth 100000 in
theorem impl_NodeOf.calls (k : Nat) (a0 : ByteArray) (a1 : ByteArray) (r : ByteArray) (w : World) (h : impl_NodeOf.f k a0 a1 = some r) :
  Calls Try.prog 102 #[.string a0, .string a1] w fun e w' => e = .returned (.string r) ∧ Below w.heap.size w w' := by
  have HB := q_ (Below.refl w.heap.size w)
  have H : ((impl_nodeBytes.f a0 a1).bind fun t487 => ((impl_Digest.f k t487).bind fun t490 => (some t490))) = some r := h
  clear h
  replace H := Option.bind_eq_some_iff.mp H
  obtain ⟨t487, A30, H⟩ := H
  have A3 := Aside0.mk A30
  clear A30
  replace H := Option.bind_eq_some_iff.mp H
  obtain ⟨t490, A40, H⟩ := H
  have A4 := Aside0.mk A40
  clear A40
  obtain rfl := Option.some.inj H
  go_enter Try.func102, Try.ntmps102
  go_wp2_with (first | ((with_reducible refine gate_callee (f := 124) rfl ?_); refine gl_ (some 7) Try.func124 #[.string a0, .string a1] rfl al_ ?_; (with_reducible refine (impl_nodeBytes.calls a0 a1 t487 _ A3.out).mono ?_); rintro e w5 ⟨v488, rfl, ho0, hb⟩; refine ⟨_, rfl, ?_⟩; have HO489 := q_ (Kd.R_lower ho0 (below_size (be_ HB.out))); replace HB := q_ (below_step (be_ HB.out) hb); (try clear hb); (try clear ho0); obtain ⟨Ao6, co6, eo6⟩ := Kd.R_slice HO489.out; subst eo6) | ((with_reducible refine gate_callee (f := 67) rfl ?_); refine gl_ (some 8) Try.func67 #[.slice Ao6 t487.length co6] rfl al_ ?_; (with_reducible refine (impl_Digest.calls k _ _ t487 t490 _ ?side1 ?side2 A4.out).mono ?_); (case side1 => exact kc_ (Kd.R_reads' HO489.out).2.2); (case side2 => exact (Kd.R_reads' HO489.out).2.1); rintro e w7 ⟨rfl, hb⟩; refine ⟨_, rfl, ?_⟩; replace HO489 := q_ (Kd.R_below (kr_ HO489.out) hb); replace HB := q_ (below_step (be_ HB.out) hb); (try clear hb)))
  go_ret
  exact ⟨rf_, be_ HB.out⟩

/-! ###  impl_innerOf: function 60 -/
def impl_innerOf.f : Nat → List (S26) → Option (ByteArray)
  | 0, _ => none
  | k + 1, l0 => if (l0.length : Int) = 0 then ((impl_Digest.f k ([] : List Int)).bind fun t491 => (some t491)) else (if (l0.length : Int) = 1 then (if 0 < (l0.length : Int) then ((impl_LeafOf.f k ((rd_T26 l0 0).f0) ((rd_T26 l0 0).f1)).bind fun t493 => (some t493)) else (none)) else ((impl_half.f k (l0.length : Int)).bind fun t494 => (if 0 ≤ t494 then (if t494 ≤ (l0.length : Int) then ((impl_innerOf.f k (l0.take (t494 : Int).toNat)).bind fun t499 => ((impl_innerOf.f k (l0.drop (t494 : Int).toNat)).bind fun t504 => ((impl_NodeOf.f k t499 t504).bind fun t505 => (some t505)))) else (none)) else (none))))
def impl_innerOf.T7 : Bool × List (List Nat × List Nat) := (true, [([], []), ([], []), ([0, 1], [0, 1]), ([2], [2]), ([], []), ([], []), ([4, 5], [4, 5]), ([6, 3], [6]), ([3, 7, 7], [3, 7]), ([8, 8, 0, 1, 2, 3, 4, 5, 6, 7, 8], [8])])
def impl_innerOf.B7 : List Nat := [0, 0, 3, 7, 0, 0, 48, 127, 255, 511]
theorem impl_innerOf.tab7 : rtab .any (opsOf Try.f60 7) = impl_innerOf.T7 := by kernel_rfl
theorem impl_innerOf.bits7 : waitsOk impl_innerOf.T7.2 impl_innerOf.B7 = true := by kernel_rfl
set_option maxHeartbeats 8000000 in
set_option maxRecDepth 100000 in
theorem impl_innerOf.calls (k : Nat) : ∀ (A0 : Option Addr) (c0 : Nat) (l0 : List (S26)) (r : ByteArray) (w : World) (hr0 : Kd.C k26 w A0 l0.length l0) (hc0 : l0.length ≤ c0) (h : impl_innerOf.f k l0 = some r),
  Calls Try.prog 60 #[.slice A0 l0.length c0] w fun e w' => e = .returned (.string r) ∧ Below w.heap.size w w' := by
  induction k using Nat.strongRecOn with
  | _ k ih =>
  intro A0 c0 l0 r w hr0 hc0 h
  cases k with
  | zero => exact absurd h (by simp [impl_innerOf.f])
  | succ k =>
  simp only [impl_innerOf.f] at h
  have hu26 := Try.underlying26
  have HR0 := Aside0.mk hr0
  have HC0 := Aside0.mk hc0
  clear hr0 hc0
  have HB := q_ (Below.refl w.heap.size w)
  have H : (if (l0.length : Int) = 0 then ((impl_Digest.f k ([] : List Int)).bind fun t491 => (some t491)) else (if (l0.length : Int) = 1 then (if 0 < (l0.length : Int) then ((impl_LeafOf.f k ((rd_T26 l0 0).f0) ((rd_T26 l0 0).f1)).bind fun t493 => (some t493)) else (none)) else ((impl_half.f k (l0.length : Int)).bind fun t494 => (if 0 ≤ t494 then (if t494 ≤ (l0.length : Int) then ((impl_innerOf.f k (l0.take (t494 : Int).toNat)).bind fun t499 => ((impl_innerOf.f k (l0.drop (t494 : Int).toNat)).bind fun t504 => ((impl_NodeOf.f k t499 t504).bind fun t505 => (some t505)))) else (none)) else (none))))) = some r := h
  clear h
  by_cases c2 : (l0.length : Int) = 0
  · rw [if_pos c2] at H
    have c2b0 : ((l0.length : Int) == 0) = true := beq_iff_eq.mpr c2
    have c2b1 : ((l0.length : Int) != 0) = false := bne_eq_false_iff_eq.mpr c2
    clear c2
    replace H := Option.bind_eq_some_iff.mp H
    obtain ⟨t491, A30, H⟩ := H
    have A3 := Aside0.mk A30
    clear A30
    obtain rfl := Option.some.inj H
    go_enter Try.func60, Try.ntmps60
    go_wp2_with (first | ((with_reducible refine gate_callee (f := 67) rfl ?_); refine gl_ (some 8) Try.func67 #[.slice none 0 0] rfl al_ ?_; (refine (impl_Digest.calls k _ _ ([] : List Int) t491 _ ?side1 ?side2 A3.out).mono ?_); (case side1 => exact Kd.C_nil _ _); (case side2 => exact Nat.le_refl _); rintro e w4 ⟨rfl, hb⟩; refine ⟨_, rfl, ?_⟩; replace HB := q_ (below_step (be_ HB.out) hb); (try clear hb)))
    go_ret
    exact ⟨rf_, be_ HB.out⟩
  · rw [if_neg c2] at H
    have c2b0 : ((l0.length : Int) == 0) = false := beq_eq_false_iff_ne.mpr c2
    have c2b1 : ((l0.length : Int) != 0) = true := bne_iff_ne.mpr c2
    have c2b2 : ¬ (l0 = []) := fun h_ => c2 (by rw [h_]; rfl)
    by_cases c5 : (l0.length : Int) = 1
    · rw [if_pos c5] at H
      have c5b0 : ((l0.length : Int) == 1) = true := beq_iff_eq.mpr c5
      have c5b1 : ((l0.length : Int) != 1) = false := bne_eq_false_iff_eq.mpr c5
      clear c5
      by_cases c6 : 0 < (l0.length : Int)
      rotate_left
      · rw [if_neg c6] at H; exact absurd H (by simp)
      rw [if_pos c6] at H
      have c6b0 : decide (0 < (l0.length : Int)) = true := decide_eq_true c6
      have c6b1 : decide (0 < l0.length) = true := decide_eq_true (by omega)
      clear c6
      replace H := Option.bind_eq_some_iff.mp H
      obtain ⟨t493, A70, H⟩ := H
      have A7 := Aside0.mk A70
      clear A70
      obtain rfl := Option.some.inj H
      have p492 : 0 ≤ (0 : Int) := (by omega)
      have q492 : 0 < (l0.length : Int) := od_
      obtain ⟨ad492, e492, hx492_0, hx492_1⟩ := at_T26 HR0.out 0 p492 q492
      cases e492
      have qi492 : (0 < l0.length) = True := eq_true (by omega)
      (try rw [show ((0 : Int)).toNat = 0 from rfl] at hx492_0)
      (try rw [show 0 * 2 = 0 from rfl] at hx492_0)
      (try rw [Addr.add_zero'] at hx492_0)
      (try rw [show ((0 : Int)).toNat = 0 from rfl] at hx492_1)
      (try rw [show 0 * 2 = 0 from rfl] at hx492_1)
      (try rw [Addr.add_zero'] at hx492_1)
      replace p492 := eq_true p492
      replace q492 := eq_true q492
      go_enter Try.func60, Try.ntmps60
      go_wp2_with (first | ((with_reducible refine gate_callee (f := 35) rfl ?_); refine gl_ (some 14) Try.func35 #[.agg #[.string ((rd_T26 l0 0).f0), .string ((rd_T26 l0 0).f1)]] rfl al_ ?_; (with_reducible refine (impl_LeafOf.calls k ((rd_T26 l0 0).f0) ((rd_T26 l0 0).f1) t493 _ A7.out).mono ?_); rintro e w8 ⟨rfl, hb⟩; refine ⟨_, rfl, ?_⟩; replace HB := q_ (below_step (be_ HB.out) hb); (try clear hb)))
      go_ret
      exact ⟨rf_, be_ HB.out⟩
    · rw [if_neg c5] at H
      have c5b0 : ((l0.length : Int) == 1) = false := beq_eq_false_iff_ne.mpr c5
      have c5b1 : ((l0.length : Int) != 1) = true := bne_iff_ne.mpr c5
      replace H := Option.bind_eq_some_iff.mp H
      obtain ⟨t494, A90, H⟩ := H
      have A9 := Aside0.mk A90
      clear A90
      by_cases c10 : 0 ≤ t494
      rotate_left
      · rw [if_neg c10] at H; exact absurd H (by simp)
      rw [if_pos c10] at H
      have c10b0 := eq_true c10
      have c10b1 : decide (0 ≤ t494) = true := decide_eq_true c10
      clear c10
      by_cases c11 : t494 ≤ (l0.length : Int)
      rotate_left
      · rw [if_neg c11] at H; exact absurd H (by simp)
      rw [if_pos c11] at H
      have c11b0 := eq_true c11
      have c11b1 : decide (t494 ≤ (l0.length : Int)) = true := decide_eq_true c11
      clear c11
      obtain ⟨y495, hy495⟩ : ∃ y_ : List (S26), y_ = (l0.take (t494 : Int).toNat) := ⟨_, rfl⟩
      replace H : ((impl_innerOf.f k y495).bind fun t499 => ((impl_innerOf.f k (l0.drop (t494 : Int).toNat)).bind fun t504 => ((impl_NodeOf.f k t499 t504).bind fun t505 => (some t505)))) = some r := ry_ hy495 H
      have Ny495 := Aside0.mk hy495
      clear hy495
      replace H := Option.bind_eq_some_iff.mp H
      obtain ⟨t499, A120, H⟩ := H
      have A12 := Aside0.mk A120
      clear A120
      have c13b0 := eq_true (od_ : 0 ≤ t494)
      have c14b0 := eq_true (od_ : t494 ≤ (l0.length : Int))
      obtain ⟨y500, hy500⟩ : ∃ y_ : List (S26), y_ = (l0.drop (t494 : Int).toNat) := ⟨_, rfl⟩
      replace H : ((impl_innerOf.f k y500).bind fun t504 => ((impl_NodeOf.f k t499 t504).bind fun t505 => (some t505))) = some r := ry_ hy500 H
      have Ny500 := Aside0.mk hy500
      clear hy500
      replace H := Option.bind_eq_some_iff.mp H
      obtain ⟨t504, A150, H⟩ := H
      have A15 := Aside0.mk A150
      clear A150
      replace H := Option.bind_eq_some_iff.mp H
      obtain ⟨t505, A160, H⟩ := H
      have A16 := Aside0.mk A160
      clear A160
      obtain rfl := Option.some.inj H
      go_enter Try.func60, Try.ntmps60
      try go_wp2_with (first | ((with_reducible refine gate_callee (f := 100) rfl ?_); refine gl_ (some 17) Try.func100 #[.int .i64 (l0.length : Int)] rfl al_ ?_; (with_reducible refine (impl_half.calls k (l0.length : Int) t494 _ A9.out).mono ?_); rintro e w' ⟨rfl, ⟨nd, rfl⟩⟩; refine ⟨_, rfl, ?_⟩))
      replace HB := q_ (below_drew1 (pw_below_drewN HB.out nd))
      have q18 : (t494 : Int) ≤ ((l0.length : Int) : Int) := od_
      obtain ⟨i018, hi018, _, hsz18, _⟩ := info_parts info26
      have hroom18 : l0.length ≤ c0 := HC0.out
      have hC18 : Kd.C k26 _ A0 l0.length l0 := HR0.out
      have hcut18 := cut_to (P := Try.prog) 24 26 .i64 Try.underlying24 hi018 A0 l0.length c0 t494 od_ q18 hroom18
      have hr18 := Kd.C_take (m := (t494 : Int).toNat) hC18 (by omega)
      have hy18 : y495.length = (t494 : Int).toNat := (by rw [Ny495.out, List.length_take]; omega)
      rw [← Ny495.out] at hr18
      rw [← hy18] at hcut18
      have HR498 := Aside0.mk hr18
      have HC498 := q_ (show y495.length ≤ c0 from by omega)
      clear hr18 hC18 hroom18 hi018 hsz18
      have KY18 := Aside0.mk hy18
      clear hy18
      replace q18 := eq_true q18
      have q19 : (t494 : Int) ≤ ((l0.length : Int) : Int) := od_
      obtain ⟨i019, hi019, _, hsz19, _⟩ := info_parts info26
      have hroom19 : l0.length ≤ c0 := HC0.out
      have hC19 : Kd.C k26 _ A0 l0.length l0 := HR0.out
      have q019 : (0 : Int) ≤ (t494 : Int) := od_
      have hcut19 := cut_from (P := Try.prog) 24 26 .i64 Try.underlying24 hi019 2 hsz19 A0 l0.length c0 t494 q019 q19
      have hr19 := Kd.C_drop (m := (t494 : Int).toNat) (c := c0) hC19 (by omega) hroom19
      obtain ⟨A19, hA19⟩ : ∃ A1, A1 = (if c0 = (t494 : Int).toNat then A0 else (A0 : Option Addr).map (·.add ((t494 : Int).toNat * 2))) := ⟨_, rfl⟩
      obtain ⟨c19, hc19⟩ : ∃ c1, c1 = c0 - (t494 : Int).toNat := ⟨_, rfl⟩
      have hy19 : y500.length = l0.length - (t494 : Int).toNat := (by rw [Ny500.out, List.length_drop] <;> omega)
      rw [show (l0).drop (t494 : Int).toNat = y500 from Ny500.out.symm] at hr19
      replace hr19 : Kd.C k26 _ A19 y500.length y500 := (by rw [hA19]; exact hr19)
      rw [← hy19, ← hA19, ← hc19] at hcut19
      have HR503 := Aside0.mk hr19
      have HC503 := q_ (show y500.length ≤ c19 from by rw [hy19, hc19]; exact Nat.sub_le_sub_right hroom19 _)
      clear hr19 hC19 hroom19 hi019 hsz19 hc19
      have KY19 := Aside0.mk hy19
      have KA19 := Aside0.mk hA19
      clear hy19 hA19
      replace q19 := eq_true q19
      refine start_ (n := 10) (S := fun w' => True) (ds := []) (bq_ 0 10) (by kernel_rfl) rfl rfl trivial (fun hHeld => ?_); refine with_tabW impl_innerOf.tab7 impl_innerOf.bits7 (fun HT_ HW_ => ?_)
      generalize (World.drewN w nd).drew = w17 at HB HR498 HR503 hHeld ⊢
      refine pu_ 0 (some 18) (bq_ 1 9) HT_ ?_
      refine pu_ 1 (some 19) (bq_ 2 8) HT_ ?_
      refine pu_ 2 (some 20) (bq_ 3 7) HT_ ?_
      refine pu_ 4 (some 22) (br_ [3, 1, 1, 5]) HT_ ?_
      refine pu_ 5 (some 23) (br_ [3, 1, 2, 4]) HT_ ?_
      refine pu_ 6 (some 24) (br_ [3, 1, 3, 3]) HT_ ?_
      refine on_ 3 (some 21) (bq_ 7 3) HT_ (fun K hK => ?_)
      refine goes_ Try.func60 (by kernel_rfl) rfl #[.slice A0 y495.length c0] (by rfl) rfl rfl al_ ?_
      with_reducible refine (ih k (by omega) _ _ y495 t499 _ ?side1 ?side2 A12.out).mono ?_
      (case side1 => exact kc_ (Kd.C_below HR498.out HB.out))
      (case side2 => exact HC498.out)
      rintro e w20 ⟨rfl, hb⟩
      refine ⟨_, rfl, ?_⟩
      replace HB := q_ (below_step (be_ HB.out) hb)
      (try clear hb)
      (try clear hb2)
      (try clear hk)
      (try clear hi)
      refine hK.out _ _ trivial (fun hHeld => ?_)
      clear hK K
      refine nm_ ?_
      refine on_ 7 (some 25) (bq_ 8 2) HT_ (fun K hK => ?_)
      refine goes_ Try.func60 (by kernel_rfl) rfl #[.slice A19 y500.length c19] (by rfl) rfl rfl al_ ?_
      with_reducible refine (ih k (by omega) _ _ y500 t504 _ ?side1 ?side2 A15.out).mono ?_
      (case side1 => exact kc_ (Kd.C_below HR503.out HB.out))
      (case side2 => exact HC503.out)
      rintro e w21 ⟨rfl, hb⟩
      refine ⟨_, rfl, ?_⟩
      replace HB := q_ (below_step (be_ HB.out) hb)
      (try clear hb)
      (try clear hb2)
      (try clear hk)
      (try clear hi)
      refine hK.out _ _ trivial (fun hHeld => ?_)
      clear hK K
      refine nm_ ?_
      refine on_ 8 (some 26) (bq_ 9 1) HT_ (fun K hK => ?_)
      refine goes_ Try.func102 (by kernel_rfl) rfl #[.string t499, .string t504] (by rfl) rfl rfl al_ ?_
      with_reducible refine (impl_NodeOf.calls k t499 t504 t505 _ A16.out).mono ?_
      rintro e w22 ⟨rfl, hb⟩
      refine ⟨_, rfl, ?_⟩
      replace HB := q_ (below_step (be_ HB.out) hb)
      (try clear hb)
      (try clear hb2)
      (try clear hk)
      (try clear hi)
      refine hK.out _ _ trivial (fun hHeld => ?_)
      clear hK K
      refine nm_ ?_
      refine pu_ 9 (some 2) (bq_ 10 0) HT_ ?_
      refine done_ (done_of HT_.out (by kernel_rfl)) ?_
      try go_wp2
      go_ret
      exact ⟨rf_, be_ HB.out⟩

/-! ###  impl_rootOf: function 69 -/
def impl_rootOf.f (k : Nat) (l0 : List (S26)) : Option (ByteArray) := (impl_innerOf.f k l0).bind fun t506 => ((impl_rootBytes.f k (l0.length : Int) t506).bind fun t507 => ((impl_Digest.f k t507).bind fun t510 => (some t510)))
set_option maxHeartbeats 8000000 in
set_option maxRecDepth 100000 in
theorem impl_rootOf.calls (k : Nat) (A0 : Option Addr) (c0 : Nat) (l0 : List (S26)) (r : ByteArray) (w : World) (hr0 : Kd.C k26 w A0 l0.length l0) (hc0 : l0.length ≤ c0) (h : impl_rootOf.f k l0 = some r) :
  Calls Try.prog 69 #[.slice A0 l0.length c0] w fun e w' => e = .returned (.string r) ∧ Below w.heap.size w w' := by
  have HR0 := Aside0.mk hr0
  have HC0 := Aside0.mk hc0
  clear hr0 hc0
  have HB := q_ (Below.refl w.heap.size w)
  have H : ((impl_innerOf.f k l0).bind fun t506 => ((impl_rootBytes.f k (l0.length : Int) t506).bind fun t507 => ((impl_Digest.f k t507).bind fun t510 => (some t510)))) = some r := h
  clear h
  replace H := Option.bind_eq_some_iff.mp H
  obtain ⟨t506, A20, H⟩ := H
  have A2 := Aside0.mk A20
  clear A20
  replace H := Option.bind_eq_some_iff.mp H
  obtain ⟨t507, A30, H⟩ := H
  have A3 := Aside0.mk A30
  clear A30
  replace H := Option.bind_eq_some_iff.mp H
  obtain ⟨t510, A40, H⟩ := H
  have A4 := Aside0.mk A40
  clear A40
  obtain rfl := Option.some.inj H
  go_enter Try.func69, Try.ntmps69
  go_wp2_with (first | ((with_reducible refine gate_callee (f := 60) rfl ?_); refine gl_ (some 6) Try.func60 #[.slice A0 l0.length c0] rfl al_ ?_; (with_reducible refine (impl_innerOf.calls k _ _ l0 t506 _ ?side1 ?side2 A2.out).mono ?_); (case side1 => exact kc_ HR0.out); (case side2 => exact HC0.out); rintro e w5 ⟨rfl, hb⟩; refine ⟨_, rfl, ?_⟩; replace HB := q_ (below_step (be_ HB.out) hb); (try clear hb)) | ((with_reducible refine gate_callee (f := 59) rfl ?_); refine gl_ (some 7) Try.func59 #[.int .i64 (l0.length : Int), .string t506] rfl al_ ?_; (with_reducible refine (impl_rootBytes.calls k (l0.length : Int) t506 t507 _ A3.out).mono ?_); rintro e w6 ⟨v508, rfl, ho0, hb⟩; refine ⟨_, rfl, ?_⟩; have HO509 := q_ (Kd.R_lower ho0 (below_size (be_ HB.out))); replace HB := q_ (below_step (be_ HB.out) hb); (try clear hb); (try clear ho0); obtain ⟨Ao7, co7, eo7⟩ := Kd.R_slice HO509.out; subst eo7) | ((with_reducible refine gate_callee (f := 67) rfl ?_); refine gl_ (some 8) Try.func67 #[.slice Ao7 t507.length co7] rfl al_ ?_; (with_reducible refine (impl_Digest.calls k _ _ t507 t510 _ ?side1 ?side2 A4.out).mono ?_); (case side1 => exact kc_ (Kd.R_reads' HO509.out).2.2); (case side2 => exact (Kd.R_reads' HO509.out).2.1); rintro e w8 ⟨rfl, hb⟩; refine ⟨_, rfl, ?_⟩; replace HO509 := q_ (Kd.R_below (kr_ HO509.out) hb); replace HB := q_ (below_step (be_ HB.out) hb); (try clear hb)))
  go_ret
  exact ⟨rf_, be_ HB.out⟩

/-! ###  impl_isPlace: function 54 -/
def impl_isPlace.f (a0 : Int) (a1 : Int) : Option (Bool) := (impl_inRange.f a1 1 60).bind fun t511 => (if t511 = true then ((impl_inRange.f a0 0 (wrap64 (a1 - 1))).bind fun t512 => (some t512)) else (some false))
set_option maxHeartbeats 8000000 in
set_option maxRecDepth 100000 in
theorem impl_isPlace.calls (a0 : Int) (a1 : Int) (r : Bool) (w : World) (h : impl_isPlace.f a0 a1 = some r) :
  Calls Try.prog 54 #[.int .i64 a0, .int .i64 a1] w fun e w' => e = .returned (.bool r) ∧ Drawn0 w w' := by
  have H : ((impl_inRange.f a1 1 60).bind fun t511 => (if t511 = true then ((impl_inRange.f a0 0 (wrap64 (a1 - 1))).bind fun t512 => (some t512)) else (some false))) = some r := h
  clear h
  replace H := Option.bind_eq_some_iff.mp H
  obtain ⟨t511, A30, H⟩ := H
  have A3 := Aside0.mk A30
  clear A30
  by_cases c4 : t511 = true
  · subst c4
    rw [if_pos rfl] at H
    replace H := Option.bind_eq_some_iff.mp H
    obtain ⟨t512, A50, H⟩ := H
    have A5 := Aside0.mk A50
    clear A50
    obtain rfl := Option.some.inj H
    go_enter Try.func54, Try.ntmps54
    go_wp2_with (first | ((with_reducible refine gate_callee (f := 66) rfl ?_); refine gl_ (some 6) Try.func66 #[.int .i64 a1, .int .i64 1, .int .i64 60] rfl al_ ?_; (with_reducible refine (impl_inRange.calls a1 1 60 true _ A3.out).mono ?_); rintro e w' ⟨rfl, ⟨nd, rfl⟩⟩; refine ⟨_, rfl, ?_⟩) | (go_at_call 66; (with_reducible refine (impl_inRange.calls a0 0 (wrap64 (a1 - 1)) t512 _ A5.out).mono ?_); rintro e w' ⟨rfl, ⟨nd, rfl⟩⟩))
    go_ret
    exact ⟨rs_, by repeat (first | exact Drawn0.refl _ | apply Drawn0.step)⟩
  · replace c4 := Bool.eq_false_iff.mpr c4
    subst c4
    rw [if_neg (show ¬ (false = true) by decide)] at H
    obtain rfl := Option.some.inj H
    go_enter Try.func54, Try.ntmps54
    go_wp2_with (first | ((with_reducible refine gate_callee (f := 66) rfl ?_); refine gl_ (some 6) Try.func66 #[.int .i64 a1, .int .i64 1, .int .i64 60] rfl al_ ?_; (with_reducible refine (impl_inRange.calls a1 1 60 false _ A3.out).mono ?_); rintro e w' ⟨rfl, ⟨nd, rfl⟩⟩; refine ⟨_, rfl, ?_⟩))
    go_ret
    exact ⟨rs_, by repeat (first | exact Drawn0.refl _ | apply Drawn0.step)⟩

/-! ###  impl_climb: function 99 -/
mutual
def impl_climb.j0 : Nat → Int → Int → List ByteArray → Int → Bool → ByteArray → ByteArray → Option ((List (List Int)) × Bool)
  | 0, _, _, _, _, _, _, _ => none
  | k + 1, x1, x2, x3, x10, x12, x514000, x514001 => if 0 ≤ x10 then (if x10 ≤ (x3.length : Int) then ((impl_climb.f k x514000 x514001 x1 x2 (x3.take (x10 : Int).toNat)).bind fun bt522 => (if bt522.2 = true then (if 0 ≤ (wrap64 ((bt522.1.length : Int) - 1)) then (if (wrap64 ((bt522.1.length : Int) - 1)) < (bt522.1.length : Int) then ((impl_Digest.f k (rd_L8 bt522.1 (wrap64 ((bt522.1.length : Int) - 1)))).bind fun t527 => (if x12 = true then (if x10 < (x3.length : Int) then ((impl_nodeBytes.f (rdOf ByteArray.empty x3 x10) t527).bind fun t529 => (if bt522.1.length < 5864062014805 then (some ((bt522.1 ++ [t529]), true)) else (none))) else (none)) else (if x10 < (x3.length : Int) then ((impl_nodeBytes.f t527 (rdOf ByteArray.empty x3 x10)).bind fun t536 => (if bt522.1.length < 5864062014805 then (some ((bt522.1 ++ [t536]), true)) else (none))) else (none)))) else (none)) else (none)) else (some (([] : List (List Int)), false)))) else (none)) else (none)
def impl_climb.f : Nat → ByteArray → ByteArray → Int → Int → List ByteArray → Option ((List (List Int)) × Bool)
  | 0, _, _, _, _, _ => none
  | k + 1, a0_0, a0_1, a1, a2, l3 => if a2 = 1 then ((impl_leafBytes.f k a0_0 a0_1).bind fun t514 => (some ((([t514] : List (List Int))), ((l3.length : Int) == 0)))) else (if (wrap64 ((l3.length : Int) - 1)) < 0 then (some (([] : List (List Int)), false)) else ((impl_half.f k a2).bind fun t520 => (if a1 ≥ t520 then (impl_climb.j0 k (wrap64 (a1 - t520)) (wrap64 (a2 - t520)) l3 (wrap64 ((l3.length : Int) - 1)) (decide (a1 ≥ t520)) a0_0 a0_1) else (impl_climb.j0 k a1 t520 l3 (wrap64 ((l3.length : Int) - 1)) (decide (a1 ≥ t520)) a0_0 a0_1))))
end
def impl_climb.T11 : Bool × List (List Nat × List Nat) := (true, [([], []), ([], []), ([], []), ([], []), ([], []), ([3, 4], [3, 4]), ([0, 1, 2, 5], [0, 1, 2, 5]), ([6], [6]), ([7], [7]), ([7], [7]), ([8, 6, 0, 1, 2, 3, 4, 5, 6, 7, 8], [8]), ([9, 10, 0, 1, 2, 3, 4, 5, 6, 7, 8, 9, 10], [9])])
def impl_climb.B11 : List Nat := [0, 0, 0, 0, 0, 24, 63, 127, 255, 255, 511, 2047]
theorem impl_climb.tab11 : rtab .any (opsOf Try.f99 11) = impl_climb.T11 := by kernel_rfl
theorem impl_climb.bits11 : waitsOk impl_climb.T11.2 impl_climb.B11 = true := by kernel_rfl
set_option maxHeartbeats 8000000 in
set_option maxRecDepth 100000 in
theorem impl_climb.calls (k : Nat) : ∀ (a0_0 : ByteArray) (a0_1 : ByteArray) (a1 : Int) (a2 : Int) (A3 : Option Addr) (c3 : Nat) (l3 : List ByteArray) (r1 : List (List Int)) (r2 : Bool) (w : World) (hr3 : Kd.C Kd.string w A3 l3.length l3) (hc3 : l3.length ≤ c3) (h : impl_climb.f k a0_0 a0_1 a1 a2 l3 = some (r1, r2)),
  Calls Try.prog 99 #[.agg #[.string a0_0, .string a0_1], .int .i64 a1, .int .i64 a2, .slice A3 l3.length c3] w fun e w' => ∃ v0_ : Value, e = .returned (.tuple #[v0_, .bool r2]) ∧ Kd.N (Kd.slice 5 (Kd.int .u8)) 22 w' w.heap.size (fun k_ => (w.heap.size ≤ k_)) v0_ r1 ∧ Below w.heap.size w w' := by
  induction k using Nat.strongRecOn with
  | _ k ih =>
  intro a0_0 a0_1 a1 a2 A3 c3 l3 r1 r2 w hr3 hc3 h
  cases k with
  | zero => exact absurd h (by simp [impl_climb.f])
  | succ k =>
  simp only [impl_climb.f] at h
  have hu26 := Try.underlying26
  have HR3 := Aside0.mk hr3
  have HC3 := Aside0.mk hc3
  clear hr3 hc3
  have HB := q_ (Below.refl w.heap.size w)
  have H : (if a2 = 1 then ((impl_leafBytes.f k a0_0 a0_1).bind fun t514 => (some ((([t514] : List (List Int))), ((l3.length : Int) == 0)))) else (if (wrap64 ((l3.length : Int) - 1)) < 0 then (some (([] : List (List Int)), false)) else ((impl_half.f k a2).bind fun t520 => (if a1 ≥ t520 then (impl_climb.j0 k (wrap64 (a1 - t520)) (wrap64 (a2 - t520)) l3 (wrap64 ((l3.length : Int) - 1)) (decide (a1 ≥ t520)) a0_0 a0_1) else (impl_climb.j0 k a1 t520 l3 (wrap64 ((l3.length : Int) - 1)) (decide (a1 ≥ t520)) a0_0 a0_1))))) = some (r1, r2) := h
  clear h
  by_cases c5 : a2 = 1
  · rw [if_pos c5] at H
    have c5b0 : (a2 == 1) = true := beq_iff_eq.mpr c5
    have c5b1 : (a2 != 1) = false := bne_eq_false_iff_eq.mpr c5
    clear c5
    replace H := Option.bind_eq_some_iff.mp H
    obtain ⟨t514, A60, H⟩ := H
    have A6 := Aside0.mk A60
    clear A60
    obtain ⟨y517, hy517⟩ : ∃ y_ : List (List Int), y_ = (([t514] : List (List Int))) := ⟨_, rfl⟩
    replace H : (some (y517, ((l3.length : Int) == 0))) = some (r1, r2) := ry_ hy517 H
    have Ny517 := Aside0.mk hy517
    clear hy517
    simp only [Option.some.injEq, Prod.mk.injEq] at H
    obtain ⟨rfl, rfl⟩ := H
    go_enter Try.func99, Try.ntmps99
    go_wp2_with (first | ((with_reducible refine gate_dst (N := 4) rfl ?_); refine box_event rfl (N := 4) rfl (cs := #[.string a0_0, .string a0_1]) (t := 26) hr_ ?_; intro gb513 hg w7 hbox hb; have BK513 := q_ (hbox); have GW513 := q_ ((by rw [hg]; exact (below_size (be_ HB.out)) : w.heap.size ≤ gb513)); have GE513 := q_ ((by rw [hg]; exact (below_size (be_ HB.out)) : w.heap.size ≤ gb513)); replace HB := q_ (below_step (be_ HB.out) hb); clear hb hbox hg; obtain ⟨hcz8_0, hcz8_1, hfz8_0, hfz8_1⟩ := bx2_ BK513.out) | ((with_reducible refine gate_callee (f := 86) rfl ?_); refine gl_ (some 19) Try.func86 #[.agg #[.string a0_0, .string a0_1]] rfl al_ ?_; (with_reducible refine (impl_leafBytes.calls k a0_0 a0_1 t514 _ A6.out).mono ?_); rintro e w9 ⟨v515, rfl, ho0, hb⟩; refine ⟨_, rfl, ?_⟩; have HO516 := q_ (Kd.R_lower (Kd.R_newM (M := fun k_ => (w.heap.size ≤ k_)) ho0 (below_size (bs_ HB.out GE513.out)) (fun k_ h_ => h_)) (below_size (bs_ HB.out GE513.out))); replace BK513 := q_ (bb_ BK513.out hb); replace HB := q_ (below_step (bs_ HB.out GE513.out) hb); (try clear hb); (try clear ho0); obtain ⟨Ao10, co10, eo10⟩ := Kd.R_slice HO516.out; subst eo10) | ((with_reducible refine gate_dst (N := 20) rfl ?_); refine Kd.N_lit (Kd.slice 5 (Kd.int .u8)) _ 22 ?hg (N' := 20) ?hd (xs := ([t514] : List (List Int))) (inner := [.slice Ao10 t514.length co10]) (ok := (fun k_ => (w.heap.size ≤ k_) ∧ k_ ≠ gb513)) (okp := (fun k_ => (w.heap.size ≤ k_) ∧ k_ ≠ gb513)) ?hr ?hp (fun _ hk => hk) ((show ∀ k_, w9.heap.size ≤ k_ → (fun k_ => (w.heap.size ≤ k_) ∧ k_ ≠ gb513) k_ from fun k_ hk => ⟨(Nat.le_trans (below_size (bs_ HB.out GE513.out)) hk), Kd.freshB (g := gb513) (o := .cells #[.string a0_0, .string a0_1] 26 (0, 0)) (bk_ BK513.out) k_ hk⟩) _ (Nat.le_refl _)) (Below.refl _ _) (Nat.le_refl _) (by simp) ?_; (case hd => rfl); (case hg => rfl); (case hr => first | (go_simp; done) | (go_simp; rfl)); (case hp => exact (Reps.one (show Kd.FK (Kd.slice 5 (Kd.int .u8)) _ _ t514 [.slice Ao10 t514.length co10] from (Kd.FK_slice_mk (Kd.R_reads' (Kd.R_mono (ok' := (fun k_ => (w.heap.size ≤ k_) ∧ k_ ≠ gb513)) (Kd.R_types (HO516.out) BK513.out (by decide)) (fun k_ hk => ⟨hk.1.1, hk.2⟩))).2.1 (Kd.R_F (Kd.R_mono (ok' := (fun k_ => (w.heap.size ≤ k_) ∧ k_ ≠ gb513)) (Kd.R_types (HO516.out) BK513.out (by decide)) (fun k_ hk => ⟨hk.1.1, hk.2⟩))))) (Reps.none _ _))); intro v518 w11 ho12 hb hg_ hnew_; clear hg_ hnew_; (first | rw [← Ny517.out] at ho12 | (simp only [Int.reduceToNat] at ho12; rw [← Ny517.out] at ho12)); have n0_ := q_ (Kd.N_lower ho12 (below_size (bs_ HB.out GE513.out))); have n1_ := q_ (bb_ BK513.out hb); have n2_ := q_ (below_step (bs_ HB.out GE513.out) hb); clear BK513; clear HB; clear HO516; have HO519 := n0_; have BK513 := n1_; have HB := n2_; clear n0_ n1_ n2_; clear hb ho12))
    go_ret2
    exact ⟨_, rf_, by (with_reducible repeat (first | apply Kd.N_alloc | apply Kd.N_drewN | apply Kd.N_drew)); exact Kd.N_mono HO519.out (fun _ hk => hk.1), bs_ HB.out GE513.out⟩
  · rw [if_neg c5] at H
    have c5b0 : (a2 == 1) = false := beq_eq_false_iff_ne.mpr c5
    have c5b1 : (a2 != 1) = true := bne_iff_ne.mpr c5
    by_cases c13 : (wrap64 ((l3.length : Int) - 1)) < 0
    · rw [if_pos c13] at H
      have c13b0 : decide ((wrap64 ((l3.length : Int) - 1)) < 0) = true := decide_eq_true c13
      clear c13
      simp only [Option.some.injEq, Prod.mk.injEq] at H
      obtain ⟨rfl, rfl⟩ := H
      go_enter Try.func99, Try.ntmps99
      go_wp2_with (first | ((with_reducible refine gate_dst (N := 4) rfl ?_); refine box_event rfl (N := 4) rfl (cs := #[.string a0_0, .string a0_1]) (t := 26) hr_ ?_; intro gb513 hg w14 hbox hb; have BK513 := q_ (hbox); have GW513 := q_ ((by rw [hg]; exact (below_size (be_ HB.out)) : w.heap.size ≤ gb513)); have GE513 := q_ ((by rw [hg]; exact (below_size (be_ HB.out)) : w.heap.size ≤ gb513)); replace HB := q_ (below_step (be_ HB.out) hb); clear hb hbox hg))
      go_ret2
      exact ⟨_, rf_, by first | exact Kd.S_nil _ _ _ _ _ | exact Kd.N_nil _ _ _ _ _ | exact Kd.V_nil _ _ _ _ _ | exact Kd.Q_nil _ _ _ _ _ | exact Kd.R_nil _ _ _ _ _, bs_ HB.out GE513.out⟩
    · rw [if_neg c13] at H
      have c13b0 : decide ((wrap64 ((l3.length : Int) - 1)) < 0) = false := decide_eq_false c13
      clear c13
      replace H := Option.bind_eq_some_iff.mp H
      obtain ⟨t520, A150, H⟩ := H
      have A15 := Aside0.mk A150
      clear A150
      have HC16 := Aside0.mk H
      clear H
      go_enter Try.func99, Try.ntmps99
      go_upto_if 34 with (first | ((with_reducible refine gate_dst (N := 4) rfl ?_); refine box_event rfl (N := 4) rfl (cs := #[.string a0_0, .string a0_1]) (t := 26) hr_ ?_; intro gb513 hg w17 hbox hb; have BK513 := q_ (hbox); have GW513 := q_ ((by rw [hg]; exact (below_size (be_ HB.out)) : w.heap.size ≤ gb513)); have GE513 := q_ ((by rw [hg]; exact (below_size (be_ HB.out)) : w.heap.size ≤ gb513)); replace HB := q_ (below_step (be_ HB.out) hb); clear hb hbox hg) | ((with_reducible refine gate_callee (f := 100) rfl ?_); refine gl_ (some 30) Try.func100 #[.int .i64 a2] rfl al_ ?_; (with_reducible refine (impl_half.calls k a2 t520 _ A15.out).mono ?_); rintro e w' ⟨rfl, ⟨nd, rfl⟩⟩; refine ⟨_, rfl, ?_⟩))
      (try simp only [Act.put, sa_, sz_, ss_])
      obtain ⟨bq_, hbq_⟩ : ∃ b_ : Bool, decide (t520 ≤ a1) = b_ := ⟨_, rfl⟩
      try rw [hbq_]
      have BQ_ := Aside0.mk hbq_
      clear hbq_
      go_cut [1, 2] (fun v1 v2 wc => ∃ (kq : Nat) (x1_15 : Int) (x2_15 : Int), v1 = .int .i64 x1_15 ∧ v2 = .int .i64 x2_15 ∧ Aside0 (impl_climb.j0 kq x1_15 x2_15 l3 (wrap64 ((l3.length : Int) - 1)) (decide (a1 ≥ t520)) a0_0 a0_1 = some (r1, r2)) ∧ Aside0 (kq ≤ k) ∧ Aside0 (wc.heap[gb513]? = some (.cells #[.string a0_0, .string a0_1] 26 (0, 0))) ∧ Aside0 (Below w.heap.size w wc))
      case first =>
       have H := HC16.out
       clear HC16
       by_cases c18 : a1 ≥ t520
       rotate_left
       · rw [if_neg c18] at H
         have c18b0 : decide (t520 ≤ a1) = false := decide_eq_false c18
         obtain rfl : bq_ = false := BQ_.out.symm.trans c18b0
         clear c18
         (first | rw [c18b0] | (simp only [i64_w, i32_w]; rw [c18b0]) | skip)
         have H' := Aside0.mk H
         clear H
         go_wp2
         go_meet
         case rel => exact ⟨_, (a1), (t520), rs_, rs_, H', ⟨by first | omega | exact Nat.le_refl _⟩, ⟨by (with_reducible repeat (first | refine blk_drewN ?_ _ | refine blk_drew ?_ | refine blk_alloc ?_ _)); exact BK513.out⟩, ⟨bs_ HB.out GE513.out⟩⟩
       rw [if_pos c18] at H
       have c18b0 : decide (t520 ≤ a1) = true := decide_eq_true c18
       obtain rfl : bq_ = true := BQ_.out.symm.trans c18b0
       clear c18
       (first | rw [c18b0] | (simp only [i64_w, i32_w]; rw [c18b0]) | skip)
       have H' := Aside0.mk H
       clear H
       go_wp2
       go_meet
       case rel => exact ⟨_, (wrap64 (a1 - t520)), (wrap64 (a2 - t520)), rs_, rs_, H', ⟨by first | omega | exact Nat.le_refl _⟩, ⟨by (with_reducible repeat (first | refine blk_drewN ?_ _ | refine blk_drew ?_ | refine blk_alloc ?_ _)); exact BK513.out⟩, ⟨bs_ HB.out GE513.out⟩⟩
      case rest =>
       obtain rfl := BQ_.out
       clear HC16
       try clear c1
       try clear p2
       try clear c3
       try clear c5
       try clear c5b0
       try clear c5b1
       try clear p6
       try clear c8
       try clear c9
       try clear c10
       try clear c13
       try clear c13b0
       try clear c18
       try clear c18b0
       try clear hcz8_0
       try clear hcz8_1
       try clear hfz8_0
       try clear hfz8_1
       obtain ⟨kq, x1_15, x2_15, rfl, rfl, HA, HJ15, BK513, HB⟩ := hcut
       cases kq with
       | zero => exact absurd HA.out (by simp [impl_climb.j0])
       | succ kj15 =>
        have H := HA.out
        clear HA
        simp only [impl_climb.j0] at H
        obtain ⟨ji19, hji19⟩ : ∃ j_ : Int, (wrap64 ((l3.length : Int) - 1)) = j_ := ⟨_, rfl⟩
        replace H : (if 0 ≤ (ji19) then (if (ji19) ≤ (l3.length : Int) then ((impl_climb.f kj15 a0_0 a0_1 x1_15 x2_15 (l3.take ((ji19) : Int).toNat)).bind fun bt522 => (if bt522.2 = true then (if 0 ≤ (wrap64 ((bt522.1.length : Int) - 1)) then (if (wrap64 ((bt522.1.length : Int) - 1)) < (bt522.1.length : Int) then ((impl_Digest.f kj15 (rd_L8 bt522.1 (wrap64 ((bt522.1.length : Int) - 1)))).bind fun t527 => (if (decide (a1 ≥ t520)) = true then (if (ji19) < (l3.length : Int) then ((impl_nodeBytes.f (rdOf ByteArray.empty l3 (ji19)) t527).bind fun t529 => (if bt522.1.length < 5864062014805 then (some ((bt522.1 ++ [t529]), true)) else (none))) else (none)) else (if (ji19) < (l3.length : Int) then ((impl_nodeBytes.f t527 (rdOf ByteArray.empty l3 (ji19))).bind fun t536 => (if bt522.1.length < 5864062014805 then (some ((bt522.1 ++ [t536]), true)) else (none))) else (none)))) else (none)) else (none)) else (some (([] : List (List Int)), false)))) else (none)) else (none)) = some (r1, r2) := by first | (rw [hji19] at H; exact H) | (simp only [hji19] at H ⊢; exact H)
        (try rw [hji19] at c13b0)
        have hji19w : (IntKind.i64.wrap ((l3.length : Int) - 1)) = ji19 := (i64_w _).trans hji19
        by_cases c20 : 0 ≤ (ji19)
        rotate_left
        · rw [if_neg c20] at H; exact absurd H (by simp)
        rw [if_pos c20] at H
        have c20b0 := eq_true c20
        have c20b1 : decide (0 ≤ (ji19)) = true := decide_eq_true c20
        clear c20
        by_cases c21 : (ji19) ≤ (l3.length : Int)
        rotate_left
        · rw [if_neg c21] at H; exact absurd H (by simp)
        rw [if_pos c21] at H
        have c21b0 := eq_true c21
        have c21b1 : decide ((ji19) ≤ (l3.length : Int)) = true := decide_eq_true c21
        clear c21
        replace H := Option.bind_eq_some_iff.mp H
        obtain ⟨⟨t522, t525⟩, A220, H⟩ := H; try dsimp only at H
        have A22 := Aside0.mk A220
        clear A220
        by_cases c23 : t525 = true
        · subst c23
          rw [if_pos rfl] at H
          obtain ⟨ji24, hji24⟩ : ∃ j_ : Int, (wrap64 ((t522.length : Int) - 1)) = j_ := ⟨_, rfl⟩
          replace H : (if 0 ≤ (ji24) then (if (ji24) < (t522.length : Int) then ((impl_Digest.f kj15 (rd_L8 t522 (ji24))).bind fun t527 => (if (decide (a1 ≥ t520)) = true then (if (ji19) < (l3.length : Int) then ((impl_nodeBytes.f (rdOf ByteArray.empty l3 (ji19)) t527).bind fun t529 => (if t522.length < 5864062014805 then (some ((t522 ++ [t529]), true)) else (none))) else (none)) else (if (ji19) < (l3.length : Int) then ((impl_nodeBytes.f t527 (rdOf ByteArray.empty l3 (ji19))).bind fun t536 => (if t522.length < 5864062014805 then (some ((t522 ++ [t536]), true)) else (none))) else (none)))) else (none)) else (none)) = some (r1, r2) := by first | (rw [hji24] at H; exact H) | (simp only [hji24] at H ⊢; exact H)
          (try rw [hji24] at A22)
          have hji24w : (IntKind.i64.wrap ((t522.length : Int) - 1)) = ji24 := (i64_w _).trans hji24
          by_cases c25 : 0 ≤ (ji24)
          rotate_left
          · rw [if_neg c25] at H; exact absurd H (by simp)
          rw [if_pos c25] at H
          have c25b0 : decide (0 ≤ (ji24)) = true := decide_eq_true c25
          clear c25
          by_cases c26 : (ji24) < (t522.length : Int)
          rotate_left
          · rw [if_neg c26] at H; exact absurd H (by simp)
          rw [if_pos c26] at H
          have c26b0 : decide ((ji24) < (t522.length : Int)) = true := decide_eq_true c26
          clear c26
          replace H := Option.bind_eq_some_iff.mp H
          obtain ⟨t527, A270, H⟩ := H
          have A27 := Aside0.mk A270
          clear A270
          by_cases c28 : (decide (a1 ≥ t520)) = true
          · rw [if_pos c28] at H
            have c28b0 : (decide (a1 ≥ t520)) = true := c28
            clear c28
            by_cases c29 : (ji19) < (l3.length : Int)
            rotate_left
            · rw [if_neg c29] at H; exact absurd H (by simp)
            rw [if_pos c29] at H
            have c29b0 : decide ((ji19) < (l3.length : Int)) = true := decide_eq_true c29
            clear c29
            replace H := Option.bind_eq_some_iff.mp H
            obtain ⟨t529, A300, H⟩ := H
            have A30 := Aside0.mk A300
            clear A300
            by_cases c31 : t522.length < 5864062014805
            rotate_left
            · rw [if_neg c31] at H; exact absurd H (by simp)
            rw [if_pos c31] at H
            have LMc31 := Aside0.mk c31
            clear c31
            obtain ⟨y532, hy532⟩ : ∃ y_ : List (List Int), y_ = (t522 ++ [t529]) := ⟨_, rfl⟩
            replace H : (some (y532, true)) = some (r1, r2) := ry_ hy532 H
            have Ny532 := Aside0.mk hy532
            clear hy532
            simp only [Option.some.injEq, Prod.mk.injEq] at H
            obtain ⟨rfl, rfl⟩ := H
            try go_wp2
            replace BK513 := q_ (blk_drew BK513.out)
            replace HB := q_ (below_drew1 HB.out)
            obtain ⟨i033, hi033, _, hsz33, _⟩ := info_parts info9
            obtain ⟨hcut33, hA33, hC33⟩ := print_take_of (P := Try.prog) Value.string (⟨#[]⟩ : ByteArray) 27 9 .i64 Try.underlying27 hi033 hsz33 A3 c3 l3 (ji19) od_ od_ HC3.out
            have HR521 := q_ (Kd.C_of_reads (h1 := fun _ => rfl) (hA33 _ (Kd.reads_of_C HR3.out)))
            have HC521 := Aside0.mk hC33
            clear hA33 hC33 hi033 hsz33
            refine start_ (n := 12) (S := fun w' => w'.cell? ⟨gb513, 0, none⟩ = some (.string a0_0) ∧ w'.cell? ⟨gb513, 1, none⟩ = some (.string a0_1)) (ds := []) (bq_ 0 12) (by kernel_rfl) rfl rfl ⟨(blk_cell BK513.out 0).trans rfl, (blk_cell BK513.out 1).trans rfl⟩ (fun hHeld => ?_); refine with_tabW impl_climb.tab11 impl_climb.bits11 (fun HT_ HW_ => ?_)
            generalize wc.drew = w32 at BK513 HB HR521 hHeld ⊢
            refine pu_ 1 (some 44) (br_ [0, 1, 1, 10]) HT_ ?_
            refine pu_ 2 (some 45) (br_ [0, 1, 2, 9]) HT_ ?_
            refine pu_ 3 (some 46) (br_ [0, 1, 3, 8]) HT_ ?_
            refine pu_ 4 (some 47) (br_ [0, 1, 4, 7]) HT_ ?_
            refine pu_ 5 (some 48) (br_ [0, 1, 5, 6]) HT_ ?_
            refine take_ (i := 0) (N := some 43) (v := ?_) (a' := ?_) (bq_ 6 6) rfl rfl (take_ofW HT_.out HW_.out (by kernel_rfl)) (fun _ _ _ h => h) (Or.inl ⟨by rfl, ?_⟩) hHeld ?_ ?_
            rotate_left
            · rintro w' ⟨s0, s1⟩
              go_simp
              with_reducible rfl
            rotate_left
            · simp only [Act.put, sa_, sz_, ss_, i64_w, i32_w]; rfl
            refine on_ 6 (some 49) (bq_ 7 5) HT_ (fun K hK => ?_)
            refine goes_ Try.func99 (by kernel_rfl) rfl #[.agg #[.string a0_0, .string a0_1], .int .i64 x1_15, .int .i64 x2_15, .slice A3 (l3.take ((ji19) : Int).toNat).length c3] (by rfl) rfl rfl (by (try simp only [List.map_toArray, List.map_cons, List.map_nil]); first | done | (rw [show (l3.take ((ji19) : Int).toNat).length = (ji19).toNat from (by rw [List.length_take]; have h_ : ((ji19) : Int) ≤ (l3.length : Int) := od_; omega)] <;> rfl) | (simp only [hji19]; rfl) | rfl | (simp only [List.length_drop, List.length_take]; rfl)) ?_
            with_reducible refine (ih kj15 (by have := HJ15.out; omega) a0_0 a0_1 x1_15 x2_15 _ _ (l3.take ((ji19) : Int).toNat) t522 true _ ?side1 ?side2 A22.out).mono ?_
            (case side1 => exact kc_ (Kd.C_below HR521.out HB.out))
            (case side2 => exact HC521.out)
            rintro e w34 ⟨v523, rfl, ho0, hb⟩
            refine ⟨_, rfl, ?_⟩
            have HO524 := q_ (Kd.N_lower (Kd.N_mono (ok' := fun k_ => (w.heap.size ≤ k_) ∧ k_ ≠ gb513) ho0 (fun k_ hk_ => ⟨(Nat.le_trans (below_size (bs_ HB.out GE513.out)) hk_), (Kd.freshB (g := gb513) (o := .cells #[.string a0_0, .string a0_1] 26 (0, 0)) (bk_ BK513.out) k_ hk_)⟩)) (below_size (bs_ HB.out GE513.out)))
            replace BK513 := q_ (bb_ BK513.out hb)
            replace HB := q_ (below_step (bs_ HB.out GE513.out) hb)
            (try clear hb)
            (try clear hb2)
            (try clear hk)
            (try clear hi)
            (try clear ho0)
            refine hK.out _ _ ⟨(blk_cell BK513.out 0).trans rfl, (blk_cell BK513.out 1).trans rfl⟩ (fun hHeld => ?_)
            clear hK K
            refine nm_ ?_
            refine pu_ 7 (some 42) (bq_ 8 4) HT_ ?_
            refine pu_ 8 (some 50) (bq_ 9 3) HT_ ?_
            refine pu_ 9 (some 51) (bq_ 10 2) HT_ ?_
            refine pu_ 10 (some 13) (bq_ 11 1) HT_ ?_
            refine pu_ 11 (some 14) (bq_ 12 0) HT_ ?_
            refine done_ (done_of HT_.out (by kernel_rfl)) ?_
            obtain ⟨Ao35, co35, eo35⟩ := Kd.N_slice HO524.out
            subst eo35
            have p526 : 0 ≤ ((ji24) : Int) := od_
            have q526 : (ji24) < (t522.length : Int) := od_
            obtain ⟨ad526, A526_0, c526_0, e526, hx526_0, hl526_0, hi526_0⟩ := at_L8 (Kd.N_reads' HO524.out).2.2 (ji24) p526 q526
            cases e526
            obtain ⟨ce526, hce526, hMe526, hcc526⟩ := Kd.N_get HO524.out [] (ji24) p526 (by first | exact q526 | exact od_ | (have e_ := (Kd.N_reads' HO524.out).1; omega))
            obtain ⟨ua526_0, uc526_0, rfl, ul526_0, ge526_0⟩ := Kd.FK_slice_open hMe526
            have hv526_0 := hcc526 0 _ rfl
            rw [Nat.add_zero, show ((Kd.slice 5 (Kd.int .u8))).sz = 1 from rfl, Nat.mul_one] at hv526_0
            replace hv526_0 := Option.some.inj (hv526_0.symm.trans hx526_0)
            injection hv526_0 with hva_ hvn_ hvc_
            rw [hva_] at ge526_0
            rw [hvc_] at ul526_0
            have HL526_0 := q_ (show Kd.V (Kd.int .u8) 5 _ w.heap.size _ _ (rd_L8 t522 (ji24)) from Kd.V_mk ul526_0 ge526_0)
            clear hva_ hvn_ hvc_ ge526_0 ul526_0
            clear hcc526 hce526
            have HR526_0 := Aside0.mk hi526_0
            have HC526_0 := Aside0.mk hl526_0
            clear hi526_0 hl526_0
            replace p526 := eq_true p526
            replace q526 := eq_true q526
            try go_wp2_with (first | ((with_reducible refine gate_callee (f := 67) rfl ?_); refine gl_ (some 60) Try.func67 #[.slice A526_0 (rd_L8 t522 (ji24)).length c526_0] rfl (by (try simp only [List.map_toArray, List.map_cons, List.map_nil]); first | done | (simp only [hji24]; rfl) | rfl | (simp only [List.length_drop, List.length_take]; rfl)) ?_; (with_reducible refine (impl_Digest.calls kj15 _ _ (rd_L8 t522 (ji24)) t527 _ ?side1 ?side2 A27.out).mono ?_); (case side1 => repeat (first | exact (by repeat (first | (with_reducible exact HR526_0.out) | (with_reducible refine Kd.C_alloc ?_ _) | (with_reducible refine Kd.C_drewN ?_ _) | (with_reducible refine Kd.C_drew ?_) | exact HR526_0.out)) | (with_reducible refine Kd.C_alloc ?_ _) | (with_reducible refine Kd.C_drewN ?_ _) | (with_reducible refine Kd.C_drew ?_))); (case side2 => exact HC526_0.out); rintro e w36 ⟨rfl, hb⟩; refine ⟨_, rfl, ?_⟩; replace HO524 := q_ (Kd.N_below (by (with_reducible repeat (first | apply Kd.N_alloc | apply Kd.N_drewN | apply Kd.N_drew)); exact HO524.out) hb); replace HL526_0 := q_ (Kd.V_below (by (with_reducible repeat (first | apply Kd.V_alloc | apply Kd.V_drewN | apply Kd.V_drew)); exact HL526_0.out) hb); replace BK513 := q_ (bb_ BK513.out hb); replace HR526_0 := q_ (Kd.C_below (by repeat (first | (with_reducible exact HR526_0.out) | (with_reducible refine Kd.C_alloc ?_ _) | (with_reducible refine Kd.C_drewN ?_ _) | (with_reducible refine Kd.C_drew ?_) | exact HR526_0.out)) hb); replace HB := q_ (below_step (bs_ HB.out GE513.out) hb); (try clear hb); have p528 : 0 ≤ ((ji19) : Int) := od_; have q528 : (ji19) < (l3.length : Int) := od_; obtain ⟨ad528, e528, hx528_0⟩ := Kd.at_string HR3.out (ji19) p528 q528; cases e528; replace hx528_0 := (HB.out.cell (World.block_lt_of_cell? w _ hx528_0)).trans hx528_0; replace p528 := eq_true p528; replace q528 := eq_true q528) | ((with_reducible refine gate_callee (f := 124) rfl ?_); refine gl_ (some 68) Try.func124 #[.string (rdOf ByteArray.empty l3 (ji19)), .string t527] rfl (by (try simp only [List.map_toArray, List.map_cons, List.map_nil]); first | done | (simp only [hji19]; rfl) | rfl | (simp only [List.length_drop, List.length_take]; rfl)) ?_; (with_reducible refine (impl_nodeBytes.calls (rdOf ByteArray.empty l3 (ji19)) t527 t529 _ A30.out).mono ?_); rintro e w37 ⟨v530, rfl, ho0, hb⟩; refine ⟨_, rfl, ?_⟩; replace HO524 := q_ (Kd.N_elder' (by (with_reducible repeat (first | apply Kd.N_alloc | apply Kd.N_drewN | apply Kd.N_drew)); exact HO524.out) (Kd.R_base ho0) hb); replace HL526_0 := q_ (Kd.V_elder' (by (with_reducible repeat (first | apply Kd.V_alloc | apply Kd.V_drewN | apply Kd.V_drew)); exact HL526_0.out) (Kd.R_base ho0) hb); have HO531 := q_ (Kd.R_lower (Kd.R_newM (M := fun k_ => (w.heap.size ≤ k_)) ho0 (below_size (bs_ HB.out GE513.out)) (fun k_ h_ => h_)) (below_size (bs_ HB.out GE513.out))); replace BK513 := q_ (bb_ BK513.out hb); replace HR526_0 := q_ (Kd.C_below (by repeat (first | (with_reducible exact HR526_0.out) | (with_reducible refine Kd.C_alloc ?_ _) | (with_reducible refine Kd.C_drewN ?_ _) | (with_reducible refine Kd.C_drew ?_) | exact HR526_0.out)) hb); replace HB := q_ (below_step (bs_ HB.out GE513.out) hb); (try clear hb); (try clear ho0); obtain ⟨Ao39, co39, eo39⟩ := Kd.R_slice HO531.out; subst eo39) | ((with_reducible refine gate_builtin (b := .append) (xs := #[.tmp 62, .tmp 69]) rfl ?_); at_builtin; refine Kd.N_append (Kd.slice 5 (Kd.int .u8)) (w0 := w) w.heap.size rfl (.tmp 62) (.tmp 69) 83 22 (.slice none 0 0) 24 rfl Try.underlying83 info22 rfl (by decide) (by omega) (.slice (some ad526) t522.length co35) t522 t529 [.slice Ao39 t529.length co39] (fun k_ => (w.heap.size ≤ k_) ∧ k_ ≠ gb513) (fun k_ => ((fun k_ => (w.heap.size ≤ k_) ∧ k_ ≠ gb513)) k_ ∧ some k_ ≠ (.slice (some ad526) t522.length co35 : Value).ownBlock) rfl rfl ?aP (fun _ hk => hk) ?aF ?aO ?aB ?aS ?aL ?_; (case aP => exact (Kd.FK_slice_mk (Kd.R_reads' (Kd.R_mono (ok' := (fun k_ => ((fun k_ => (w.heap.size ≤ k_) ∧ k_ ≠ gb513)) k_ ∧ some k_ ≠ (.slice (some ad526) t522.length co35 : Value).ownBlock)) (Kd.R_types (Kd.R_apart' (HO531.out) (Kd.N_typed HO524.out) (by decide)) BK513.out (by decide)) (fun k_ hk => ⟨⟨hk.1.1.1, hk.2⟩, hk.1.2⟩))).2.1 (Kd.R_F (Kd.R_mono (ok' := (fun k_ => ((fun k_ => (w.heap.size ≤ k_) ∧ k_ ≠ gb513)) k_ ∧ some k_ ≠ (.slice (some ad526) t522.length co35 : Value).ownBlock)) (Kd.R_types (Kd.R_apart' (HO531.out) (Kd.N_typed HO524.out) (by decide)) BK513.out (by decide)) (fun k_ hk => ⟨⟨hk.1.1.1, hk.2⟩, hk.1.2⟩))))); (case aB => exact (bs_ HB.out GE513.out)); (case aF => exact (fun k_ hk => ⟨(Nat.le_trans (below_size (bs_ HB.out GE513.out)) hk), Kd.freshB (g := gb513) (o := .cells #[.string a0_0, .string a0_1] 26 (0, 0)) (bk_ BK513.out) k_ hk⟩)); (case aO => exact (by (with_reducible repeat (first | apply Kd.N_alloc | apply Kd.N_drewN | apply Kd.N_drew)); exact Kd.N_mono HO524.out (fun _ hk => ⟨hk.1.1, hk.1.2⟩))); (case aS => exact (below_size (bs_ HB.out GE513.out))); (case aL => have := LMc31.out; omega); intro v533 w38 ho hb hg hat; rw [← Ny532.out] at ho; have n0_ := q_ (blk_grown (g := gb513) (o := .cells #[.string a0_0, .string a0_1] 26 (0, 0)) (bk_ BK513.out) hg (Kd.N_ne HO524.out BK513.out (by decide))); have n1_ := q_ (Kd.V_afterv (ok := (fun k_ => (w.heap.size ≤ k_) ∧ some k_ ≠ (.slice Ao39 t529.length co39 : Value).ownBlock ∧ k_ ≠ gb513)) (by (with_reducible repeat (first | apply Kd.V_alloc | apply Kd.V_drewN | apply Kd.V_drew)); exact Kd.V_mono HL526_0.out (fun _ hk => ⟨⟨hk.1.1.1, ⟨hk.2, hk.1.1.2⟩⟩, hk.1.2⟩)) hg hat); have n2_ := q_ (hb); have n3_ := q_ (ho); clear BK513; clear HL526_0; clear HB; clear HO524; clear HO531; have BK513 := n0_; have HL526_0 := n1_; have HB := n2_; have HO534 := n3_; clear n0_ n1_ n2_ n3_; clear ho hb hg hat))
            go_ret2
            exact ⟨_, by first | rfl | (simp [errW_none, errW_some] <;> rfl) | (simp only [← hji19, ← hji24]; first | rfl | (simp [errW_none, errW_some] <;> rfl)) | (simp [*, errW_none, errW_some] <;> rfl), by (with_reducible repeat (first | apply Kd.N_alloc | apply Kd.N_drewN | apply Kd.N_drew)); exact Kd.N_mono HO534.out (fun _ hk => hk.1), bs_ HB.out GE513.out⟩
          rw [if_neg c28] at H
          have c28b0 : (decide (a1 ≥ t520)) = false := by simpa using c28
          clear c28
          by_cases c40 : (ji19) < (l3.length : Int)
          rotate_left
          · rw [if_neg c40] at H; exact absurd H (by simp)
          rw [if_pos c40] at H
          have c40b0 : decide ((ji19) < (l3.length : Int)) = true := decide_eq_true c40
          clear c40
          replace H := Option.bind_eq_some_iff.mp H
          obtain ⟨t536, A410, H⟩ := H
          have A41 := Aside0.mk A410
          clear A410
          by_cases c42 : t522.length < 5864062014805
          rotate_left
          · rw [if_neg c42] at H; exact absurd H (by simp)
          rw [if_pos c42] at H
          have LMc42 := Aside0.mk c42
          clear c42
          obtain ⟨y539, hy539⟩ : ∃ y_ : List (List Int), y_ = (t522 ++ [t536]) := ⟨_, rfl⟩
          replace H : (some (y539, true)) = some (r1, r2) := ry_ hy539 H
          have Ny539 := Aside0.mk hy539
          clear hy539
          simp only [Option.some.injEq, Prod.mk.injEq] at H
          obtain ⟨rfl, rfl⟩ := H
          try go_wp2
          replace BK513 := q_ (blk_drew BK513.out)
          replace HB := q_ (below_drew1 HB.out)
          obtain ⟨i044, hi044, _, hsz44, _⟩ := info_parts info9
          obtain ⟨hcut44, hA44, hC44⟩ := print_take_of (P := Try.prog) Value.string (⟨#[]⟩ : ByteArray) 27 9 .i64 Try.underlying27 hi044 hsz44 A3 c3 l3 (ji19) od_ od_ HC3.out
          have HR521 := q_ (Kd.C_of_reads (h1 := fun _ => rfl) (hA44 _ (Kd.reads_of_C HR3.out)))
          have HC521 := Aside0.mk hC44
          clear hA44 hC44 hi044 hsz44
          refine start_ (n := 12) (S := fun w' => w'.cell? ⟨gb513, 0, none⟩ = some (.string a0_0) ∧ w'.cell? ⟨gb513, 1, none⟩ = some (.string a0_1)) (ds := []) (bq_ 0 12) (by kernel_rfl) rfl rfl ⟨(blk_cell BK513.out 0).trans rfl, (blk_cell BK513.out 1).trans rfl⟩ (fun hHeld => ?_); refine with_tabW impl_climb.tab11 impl_climb.bits11 (fun HT_ HW_ => ?_)
          generalize wc.drew = w43 at BK513 HB HR521 hHeld ⊢
          refine pu_ 1 (some 44) (br_ [0, 1, 1, 10]) HT_ ?_
          refine pu_ 2 (some 45) (br_ [0, 1, 2, 9]) HT_ ?_
          refine pu_ 3 (some 46) (br_ [0, 1, 3, 8]) HT_ ?_
          refine pu_ 4 (some 47) (br_ [0, 1, 4, 7]) HT_ ?_
          refine pu_ 5 (some 48) (br_ [0, 1, 5, 6]) HT_ ?_
          refine take_ (i := 0) (N := some 43) (v := ?_) (a' := ?_) (bq_ 6 6) rfl rfl (take_ofW HT_.out HW_.out (by kernel_rfl)) (fun _ _ _ h => h) (Or.inl ⟨by rfl, ?_⟩) hHeld ?_ ?_
          rotate_left
          · rintro w' ⟨s0, s1⟩
            go_simp
            with_reducible rfl
          rotate_left
          · simp only [Act.put, sa_, sz_, ss_, i64_w, i32_w]; rfl
          refine on_ 6 (some 49) (bq_ 7 5) HT_ (fun K hK => ?_)
          refine goes_ Try.func99 (by kernel_rfl) rfl #[.agg #[.string a0_0, .string a0_1], .int .i64 x1_15, .int .i64 x2_15, .slice A3 (l3.take ((ji19) : Int).toNat).length c3] (by rfl) rfl rfl (by (try simp only [List.map_toArray, List.map_cons, List.map_nil]); first | done | (rw [show (l3.take ((ji19) : Int).toNat).length = (ji19).toNat from (by rw [List.length_take]; have h_ : ((ji19) : Int) ≤ (l3.length : Int) := od_; omega)] <;> rfl) | (simp only [hji19]; rfl) | rfl | (simp only [List.length_drop, List.length_take]; rfl)) ?_
          with_reducible refine (ih kj15 (by have := HJ15.out; omega) a0_0 a0_1 x1_15 x2_15 _ _ (l3.take ((ji19) : Int).toNat) t522 true _ ?side1 ?side2 A22.out).mono ?_
          (case side1 => exact kc_ (Kd.C_below HR521.out HB.out))
          (case side2 => exact HC521.out)
          rintro e w45 ⟨v523, rfl, ho0, hb⟩
          refine ⟨_, rfl, ?_⟩
          have HO524 := q_ (Kd.N_lower (Kd.N_mono (ok' := fun k_ => (w.heap.size ≤ k_) ∧ k_ ≠ gb513) ho0 (fun k_ hk_ => ⟨(Nat.le_trans (below_size (bs_ HB.out GE513.out)) hk_), (Kd.freshB (g := gb513) (o := .cells #[.string a0_0, .string a0_1] 26 (0, 0)) (bk_ BK513.out) k_ hk_)⟩)) (below_size (bs_ HB.out GE513.out)))
          replace BK513 := q_ (bb_ BK513.out hb)
          replace HB := q_ (below_step (bs_ HB.out GE513.out) hb)
          (try clear hb)
          (try clear hb2)
          (try clear hk)
          (try clear hi)
          (try clear ho0)
          refine hK.out _ _ ⟨(blk_cell BK513.out 0).trans rfl, (blk_cell BK513.out 1).trans rfl⟩ (fun hHeld => ?_)
          clear hK K
          refine nm_ ?_
          refine pu_ 7 (some 42) (bq_ 8 4) HT_ ?_
          refine pu_ 8 (some 50) (bq_ 9 3) HT_ ?_
          refine pu_ 9 (some 51) (bq_ 10 2) HT_ ?_
          refine pu_ 10 (some 13) (bq_ 11 1) HT_ ?_
          refine pu_ 11 (some 14) (bq_ 12 0) HT_ ?_
          refine done_ (done_of HT_.out (by kernel_rfl)) ?_
          obtain ⟨Ao46, co46, eo46⟩ := Kd.N_slice HO524.out
          subst eo46
          have p526 : 0 ≤ ((ji24) : Int) := od_
          have q526 : (ji24) < (t522.length : Int) := od_
          obtain ⟨ad526, A526_0, c526_0, e526, hx526_0, hl526_0, hi526_0⟩ := at_L8 (Kd.N_reads' HO524.out).2.2 (ji24) p526 q526
          cases e526
          obtain ⟨ce526, hce526, hMe526, hcc526⟩ := Kd.N_get HO524.out [] (ji24) p526 (by first | exact q526 | exact od_ | (have e_ := (Kd.N_reads' HO524.out).1; omega))
          obtain ⟨ua526_0, uc526_0, rfl, ul526_0, ge526_0⟩ := Kd.FK_slice_open hMe526
          have hv526_0 := hcc526 0 _ rfl
          rw [Nat.add_zero, show ((Kd.slice 5 (Kd.int .u8))).sz = 1 from rfl, Nat.mul_one] at hv526_0
          replace hv526_0 := Option.some.inj (hv526_0.symm.trans hx526_0)
          injection hv526_0 with hva_ hvn_ hvc_
          rw [hva_] at ge526_0
          rw [hvc_] at ul526_0
          have HL526_0 := q_ (show Kd.V (Kd.int .u8) 5 _ w.heap.size _ _ (rd_L8 t522 (ji24)) from Kd.V_mk ul526_0 ge526_0)
          clear hva_ hvn_ hvc_ ge526_0 ul526_0
          clear hcc526 hce526
          have HR526_0 := Aside0.mk hi526_0
          have HC526_0 := Aside0.mk hl526_0
          clear hi526_0 hl526_0
          replace p526 := eq_true p526
          replace q526 := eq_true q526
          try go_wp2_with (first | ((with_reducible refine gate_callee (f := 67) rfl ?_); refine gl_ (some 60) Try.func67 #[.slice A526_0 (rd_L8 t522 (ji24)).length c526_0] rfl (by (try simp only [List.map_toArray, List.map_cons, List.map_nil]); first | done | (simp only [hji24]; rfl) | rfl | (simp only [List.length_drop, List.length_take]; rfl)) ?_; (with_reducible refine (impl_Digest.calls kj15 _ _ (rd_L8 t522 (ji24)) t527 _ ?side1 ?side2 A27.out).mono ?_); (case side1 => repeat (first | exact (by repeat (first | (with_reducible exact HR526_0.out) | (with_reducible refine Kd.C_alloc ?_ _) | (with_reducible refine Kd.C_drewN ?_ _) | (with_reducible refine Kd.C_drew ?_) | exact HR526_0.out)) | (with_reducible refine Kd.C_alloc ?_ _) | (with_reducible refine Kd.C_drewN ?_ _) | (with_reducible refine Kd.C_drew ?_))); (case side2 => exact HC526_0.out); rintro e w47 ⟨rfl, hb⟩; refine ⟨_, rfl, ?_⟩; replace HO524 := q_ (Kd.N_below (by (with_reducible repeat (first | apply Kd.N_alloc | apply Kd.N_drewN | apply Kd.N_drew)); exact HO524.out) hb); replace HL526_0 := q_ (Kd.V_below (by (with_reducible repeat (first | apply Kd.V_alloc | apply Kd.V_drewN | apply Kd.V_drew)); exact HL526_0.out) hb); replace BK513 := q_ (bb_ BK513.out hb); replace HR526_0 := q_ (Kd.C_below (by repeat (first | (with_reducible exact HR526_0.out) | (with_reducible refine Kd.C_alloc ?_ _) | (with_reducible refine Kd.C_drewN ?_ _) | (with_reducible refine Kd.C_drew ?_) | exact HR526_0.out)) hb); replace HB := q_ (below_step (bs_ HB.out GE513.out) hb); (try clear hb); have p535 : 0 ≤ ((ji19) : Int) := od_; have q535 : (ji19) < (l3.length : Int) := od_; obtain ⟨ad535, e535, hx535_0⟩ := Kd.at_string HR3.out (ji19) p535 q535; cases e535; replace hx535_0 := (HB.out.cell (World.block_lt_of_cell? w _ hx535_0)).trans hx535_0; replace p535 := eq_true p535; replace q535 := eq_true q535) | ((with_reducible refine gate_callee (f := 124) rfl ?_); refine gl_ (some 77) Try.func124 #[.string t527, .string (rdOf ByteArray.empty l3 (ji19))] rfl (by (try simp only [List.map_toArray, List.map_cons, List.map_nil]); first | done | (simp only [hji19]; rfl) | rfl | (simp only [List.length_drop, List.length_take]; rfl)) ?_; (with_reducible refine (impl_nodeBytes.calls t527 (rdOf ByteArray.empty l3 (ji19)) t536 _ A41.out).mono ?_); rintro e w48 ⟨v537, rfl, ho0, hb⟩; refine ⟨_, rfl, ?_⟩; replace HO524 := q_ (Kd.N_elder' (by (with_reducible repeat (first | apply Kd.N_alloc | apply Kd.N_drewN | apply Kd.N_drew)); exact HO524.out) (Kd.R_base ho0) hb); replace HL526_0 := q_ (Kd.V_elder' (by (with_reducible repeat (first | apply Kd.V_alloc | apply Kd.V_drewN | apply Kd.V_drew)); exact HL526_0.out) (Kd.R_base ho0) hb); have HO538 := q_ (Kd.R_lower (Kd.R_newM (M := fun k_ => (w.heap.size ≤ k_)) ho0 (below_size (bs_ HB.out GE513.out)) (fun k_ h_ => h_)) (below_size (bs_ HB.out GE513.out))); replace BK513 := q_ (bb_ BK513.out hb); replace HR526_0 := q_ (Kd.C_below (by repeat (first | (with_reducible exact HR526_0.out) | (with_reducible refine Kd.C_alloc ?_ _) | (with_reducible refine Kd.C_drewN ?_ _) | (with_reducible refine Kd.C_drew ?_) | exact HR526_0.out)) hb); replace HB := q_ (below_step (bs_ HB.out GE513.out) hb); (try clear hb); (try clear ho0); obtain ⟨Ao50, co50, eo50⟩ := Kd.R_slice HO538.out; subst eo50) | ((with_reducible refine gate_builtin (b := .append) (xs := #[.tmp 71, .tmp 78]) rfl ?_); at_builtin; refine Kd.N_append (Kd.slice 5 (Kd.int .u8)) (w0 := w) w.heap.size rfl (.tmp 71) (.tmp 78) 83 22 (.slice none 0 0) 24 rfl Try.underlying83 info22 rfl (by decide) (by omega) (.slice (some ad526) t522.length co46) t522 t536 [.slice Ao50 t536.length co50] (fun k_ => (w.heap.size ≤ k_) ∧ k_ ≠ gb513) (fun k_ => ((fun k_ => (w.heap.size ≤ k_) ∧ k_ ≠ gb513)) k_ ∧ some k_ ≠ (.slice (some ad526) t522.length co46 : Value).ownBlock) rfl rfl ?aP (fun _ hk => hk) ?aF ?aO ?aB ?aS ?aL ?_; (case aP => exact (Kd.FK_slice_mk (Kd.R_reads' (Kd.R_mono (ok' := (fun k_ => ((fun k_ => (w.heap.size ≤ k_) ∧ k_ ≠ gb513)) k_ ∧ some k_ ≠ (.slice (some ad526) t522.length co46 : Value).ownBlock)) (Kd.R_types (Kd.R_apart' (HO538.out) (Kd.N_typed HO524.out) (by decide)) BK513.out (by decide)) (fun k_ hk => ⟨⟨hk.1.1.1, hk.2⟩, hk.1.2⟩))).2.1 (Kd.R_F (Kd.R_mono (ok' := (fun k_ => ((fun k_ => (w.heap.size ≤ k_) ∧ k_ ≠ gb513)) k_ ∧ some k_ ≠ (.slice (some ad526) t522.length co46 : Value).ownBlock)) (Kd.R_types (Kd.R_apart' (HO538.out) (Kd.N_typed HO524.out) (by decide)) BK513.out (by decide)) (fun k_ hk => ⟨⟨hk.1.1.1, hk.2⟩, hk.1.2⟩))))); (case aB => exact (bs_ HB.out GE513.out)); (case aF => exact (fun k_ hk => ⟨(Nat.le_trans (below_size (bs_ HB.out GE513.out)) hk), Kd.freshB (g := gb513) (o := .cells #[.string a0_0, .string a0_1] 26 (0, 0)) (bk_ BK513.out) k_ hk⟩)); (case aO => exact (by (with_reducible repeat (first | apply Kd.N_alloc | apply Kd.N_drewN | apply Kd.N_drew)); exact Kd.N_mono HO524.out (fun _ hk => ⟨hk.1.1, hk.1.2⟩))); (case aS => exact (below_size (bs_ HB.out GE513.out))); (case aL => have := LMc42.out; omega); intro v540 w49 ho hb hg hat; rw [← Ny539.out] at ho; have n0_ := q_ (blk_grown (g := gb513) (o := .cells #[.string a0_0, .string a0_1] 26 (0, 0)) (bk_ BK513.out) hg (Kd.N_ne HO524.out BK513.out (by decide))); have n1_ := q_ (Kd.V_afterv (ok := (fun k_ => (w.heap.size ≤ k_) ∧ some k_ ≠ (.slice Ao50 t536.length co50 : Value).ownBlock ∧ k_ ≠ gb513)) (by (with_reducible repeat (first | apply Kd.V_alloc | apply Kd.V_drewN | apply Kd.V_drew)); exact Kd.V_mono HL526_0.out (fun _ hk => ⟨⟨hk.1.1.1, ⟨hk.2, hk.1.1.2⟩⟩, hk.1.2⟩)) hg hat); have n2_ := q_ (hb); have n3_ := q_ (ho); clear BK513; clear HL526_0; clear HB; clear HO524; clear HO538; have BK513 := n0_; have HL526_0 := n1_; have HB := n2_; have HO541 := n3_; clear n0_ n1_ n2_ n3_; clear ho hb hg hat))
          go_ret2
          exact ⟨_, by first | rfl | (simp [errW_none, errW_some] <;> rfl) | (simp only [← hji19, ← hji24]; first | rfl | (simp [errW_none, errW_some] <;> rfl)) | (simp [*, errW_none, errW_some] <;> rfl), by (with_reducible repeat (first | apply Kd.N_alloc | apply Kd.N_drewN | apply Kd.N_drew)); exact Kd.N_mono HO541.out (fun _ hk => hk.1), bs_ HB.out GE513.out⟩
        · replace c23 := Bool.eq_false_iff.mpr c23
          subst c23
          rw [if_neg (show ¬ (false = true) by decide)] at H
          simp only [Option.some.injEq, Prod.mk.injEq] at H
          obtain ⟨rfl, rfl⟩ := H
          try go_wp2
          replace BK513 := q_ (blk_drew BK513.out)
          replace HB := q_ (below_drew1 HB.out)
          obtain ⟨i052, hi052, _, hsz52, _⟩ := info_parts info9
          obtain ⟨hcut52, hA52, hC52⟩ := print_take_of (P := Try.prog) Value.string (⟨#[]⟩ : ByteArray) 27 9 .i64 Try.underlying27 hi052 hsz52 A3 c3 l3 (ji19) od_ od_ HC3.out
          have HR521 := q_ (Kd.C_of_reads (h1 := fun _ => rfl) (hA52 _ (Kd.reads_of_C HR3.out)))
          have HC521 := Aside0.mk hC52
          clear hA52 hC52 hi052 hsz52
          refine start_ (n := 12) (S := fun w' => w'.cell? ⟨gb513, 0, none⟩ = some (.string a0_0) ∧ w'.cell? ⟨gb513, 1, none⟩ = some (.string a0_1)) (ds := []) (bq_ 0 12) (by kernel_rfl) rfl rfl ⟨(blk_cell BK513.out 0).trans rfl, (blk_cell BK513.out 1).trans rfl⟩ (fun hHeld => ?_); refine with_tabW impl_climb.tab11 impl_climb.bits11 (fun HT_ HW_ => ?_)
          generalize wc.drew = w51 at BK513 HB HR521 hHeld ⊢
          refine pu_ 1 (some 44) (br_ [0, 1, 1, 10]) HT_ ?_
          refine pu_ 2 (some 45) (br_ [0, 1, 2, 9]) HT_ ?_
          refine pu_ 3 (some 46) (br_ [0, 1, 3, 8]) HT_ ?_
          refine pu_ 4 (some 47) (br_ [0, 1, 4, 7]) HT_ ?_
          refine pu_ 5 (some 48) (br_ [0, 1, 5, 6]) HT_ ?_
          refine take_ (i := 0) (N := some 43) (v := ?_) (a' := ?_) (bq_ 6 6) rfl rfl (take_ofW HT_.out HW_.out (by kernel_rfl)) (fun _ _ _ h => h) (Or.inl ⟨by rfl, ?_⟩) hHeld ?_ ?_
          rotate_left
          · rintro w' ⟨s0, s1⟩
            go_simp
            with_reducible rfl
          rotate_left
          · simp only [Act.put, sa_, sz_, ss_, i64_w, i32_w]; rfl
          refine on_ 6 (some 49) (bq_ 7 5) HT_ (fun K hK => ?_)
          refine goes_ Try.func99 (by kernel_rfl) rfl #[.agg #[.string a0_0, .string a0_1], .int .i64 x1_15, .int .i64 x2_15, .slice A3 (l3.take ((ji19) : Int).toNat).length c3] (by rfl) rfl rfl (by (try simp only [List.map_toArray, List.map_cons, List.map_nil]); first | done | (rw [show (l3.take ((ji19) : Int).toNat).length = (ji19).toNat from (by rw [List.length_take]; have h_ : ((ji19) : Int) ≤ (l3.length : Int) := od_; omega)] <;> rfl) | (simp only [hji19]; rfl) | rfl | (simp only [List.length_drop, List.length_take]; rfl)) ?_
          with_reducible refine (ih kj15 (by have := HJ15.out; omega) a0_0 a0_1 x1_15 x2_15 _ _ (l3.take ((ji19) : Int).toNat) t522 false _ ?side1 ?side2 A22.out).mono ?_
          (case side1 => exact kc_ (Kd.C_below HR521.out HB.out))
          (case side2 => exact HC521.out)
          rintro e w53 ⟨v523, rfl, ho0, hb⟩
          refine ⟨_, rfl, ?_⟩
          have HO524 := q_ (Kd.N_lower (Kd.N_mono (ok' := fun k_ => (w.heap.size ≤ k_) ∧ k_ ≠ gb513) ho0 (fun k_ hk_ => ⟨(Nat.le_trans (below_size (bs_ HB.out GE513.out)) hk_), (Kd.freshB (g := gb513) (o := .cells #[.string a0_0, .string a0_1] 26 (0, 0)) (bk_ BK513.out) k_ hk_)⟩)) (below_size (bs_ HB.out GE513.out)))
          replace BK513 := q_ (bb_ BK513.out hb)
          replace HB := q_ (below_step (bs_ HB.out GE513.out) hb)
          (try clear hb)
          (try clear hb2)
          (try clear hk)
          (try clear hi)
          (try clear ho0)
          refine hK.out _ _ ⟨(blk_cell BK513.out 0).trans rfl, (blk_cell BK513.out 1).trans rfl⟩ (fun hHeld => ?_)
          clear hK K
          refine nm_ ?_
          refine pu_ 7 (some 42) (bq_ 8 4) HT_ ?_
          refine pu_ 8 (some 50) (bq_ 9 3) HT_ ?_
          refine pu_ 9 (some 51) (bq_ 10 2) HT_ ?_
          refine pu_ 10 (some 13) (bq_ 11 1) HT_ ?_
          refine pu_ 11 (some 14) (bq_ 12 0) HT_ ?_
          refine done_ (done_of HT_.out (by kernel_rfl)) ?_
          try go_wp2
          go_ret2
          exact ⟨_, by first | rfl | (simp [errW_none, errW_some] <;> rfl) | (simp only [← hji19]; first | rfl | (simp [errW_none, errW_some] <;> rfl)) | (simp [*, errW_none, errW_some] <;> rfl), by first | exact Kd.S_nil _ _ _ _ _ | exact Kd.N_nil _ _ _ _ _ | exact Kd.V_nil _ _ _ _ _ | exact Kd.Q_nil _ _ _ _ _ | exact Kd.R_nil _ _ _ _ _, bs_ HB.out GE513.out⟩

/-! ###  impl_wayTo: function 56 -/
def impl_wayTo.f (k : Nat) (a0_0 : ByteArray) (a0_1 : ByteArray) (a1 : Int) (a2 : Int) (l3 : List ByteArray) : Option ((List (List Int)) × Bool) := (impl_climb.f k a0_0 a0_1 a1 a2 l3).bind fun bt543 => (if bt543.2 = true then (if 0 ≤ (wrap64 ((bt543.1.length : Int) - 1)) then (if (wrap64 ((bt543.1.length : Int) - 1)) < (bt543.1.length : Int) then ((impl_Digest.f k (rd_L8 bt543.1 (wrap64 ((bt543.1.length : Int) - 1)))).bind fun t548 => ((impl_rootBytes.f k a2 t548).bind fun t549 => (if bt543.1.length < 5864062014805 then (some ((bt543.1 ++ [t549]), true)) else (none)))) else (none)) else (none)) else (some (([] : List (List Int)), false)))
set_option maxHeartbeats 8000000 in
set_option maxRecDepth 100000 in
theorem impl_wayTo.calls (k : Nat) (a0_0 : ByteArray) (a0_1 : ByteArray) (a1 : Int) (a2 : Int) (A3 : Option Addr) (c3 : Nat) (l3 : List ByteArray) (r1 : List (List Int)) (r2 : Bool) (w : World) (hr3 : Kd.C Kd.string w A3 l3.length l3) (hc3 : l3.length ≤ c3) (h : impl_wayTo.f k a0_0 a0_1 a1 a2 l3 = some (r1, r2)) :
  Calls Try.prog 56 #[.agg #[.string a0_0, .string a0_1], .int .i64 a1, .int .i64 a2, .slice A3 l3.length c3] w fun e w' => ∃ v0_ : Value, e = .returned (.tuple #[v0_, .bool r2]) ∧ Kd.N (Kd.slice 5 (Kd.int .u8)) 22 w' w.heap.size (fun k_ => (w.heap.size ≤ k_)) v0_ r1 ∧ Below w.heap.size w w' := by
  have hu26 := Try.underlying26
  have HR3 := Aside0.mk hr3
  have HC3 := Aside0.mk hc3
  clear hr3 hc3
  have HB := q_ (Below.refl w.heap.size w)
  have H : ((impl_climb.f k a0_0 a0_1 a1 a2 l3).bind fun bt543 => (if bt543.2 = true then (if 0 ≤ (wrap64 ((bt543.1.length : Int) - 1)) then (if (wrap64 ((bt543.1.length : Int) - 1)) < (bt543.1.length : Int) then ((impl_Digest.f k (rd_L8 bt543.1 (wrap64 ((bt543.1.length : Int) - 1)))).bind fun t548 => ((impl_rootBytes.f k a2 t548).bind fun t549 => (if bt543.1.length < 5864062014805 then (some ((bt543.1 ++ [t549]), true)) else (none)))) else (none)) else (none)) else (some (([] : List (List Int)), false)))) = some (r1, r2) := h
  clear h
  replace H := Option.bind_eq_some_iff.mp H
  obtain ⟨⟨t543, t546⟩, A50, H⟩ := H; try dsimp only at H
  have A5 := Aside0.mk A50
  clear A50
  by_cases c6 : t546 = true
  · subst c6
    rw [if_pos rfl] at H
    obtain ⟨ji7, hji7⟩ : ∃ j_ : Int, (wrap64 ((t543.length : Int) - 1)) = j_ := ⟨_, rfl⟩
    replace H : (if 0 ≤ (ji7) then (if (ji7) < (t543.length : Int) then ((impl_Digest.f k (rd_L8 t543 (ji7))).bind fun t548 => ((impl_rootBytes.f k a2 t548).bind fun t549 => (if t543.length < 5864062014805 then (some ((t543 ++ [t549]), true)) else (none)))) else (none)) else (none)) = some (r1, r2) := by first | (rw [hji7] at H; exact H) | (simp only [hji7] at H ⊢; exact H)
    (try rw [hji7] at A5)
    have hji7w : (IntKind.i64.wrap ((t543.length : Int) - 1)) = ji7 := (i64_w _).trans hji7
    by_cases c8 : 0 ≤ (ji7)
    rotate_left
    · rw [if_neg c8] at H; exact absurd H (by simp)
    rw [if_pos c8] at H
    have c8b0 : decide (0 ≤ (ji7)) = true := decide_eq_true c8
    clear c8
    by_cases c9 : (ji7) < (t543.length : Int)
    rotate_left
    · rw [if_neg c9] at H; exact absurd H (by simp)
    rw [if_pos c9] at H
    have c9b0 : decide ((ji7) < (t543.length : Int)) = true := decide_eq_true c9
    clear c9
    replace H := Option.bind_eq_some_iff.mp H
    obtain ⟨t548, A100, H⟩ := H
    have A10 := Aside0.mk A100
    clear A100
    replace H := Option.bind_eq_some_iff.mp H
    obtain ⟨t549, A110, H⟩ := H
    have A11 := Aside0.mk A110
    clear A110
    by_cases c12 : t543.length < 5864062014805
    rotate_left
    · rw [if_neg c12] at H; exact absurd H (by simp)
    rw [if_pos c12] at H
    have LMc12 := Aside0.mk c12
    clear c12
    obtain ⟨y552, hy552⟩ : ∃ y_ : List (List Int), y_ = (t543 ++ [t549]) := ⟨_, rfl⟩
    replace H : (some (y552, true)) = some (r1, r2) := ry_ hy552 H
    have Ny552 := Aside0.mk hy552
    clear hy552
    simp only [Option.some.injEq, Prod.mk.injEq] at H
    obtain ⟨rfl, rfl⟩ := H
    go_enter Try.func56, Try.ntmps56
    go_wp2_with (first | ((with_reducible refine gate_dst (N := 4) rfl ?_); refine box_event rfl (N := 4) rfl (cs := #[.string a0_0, .string a0_1]) (t := 26) hr_ ?_; intro gb542 hg w13 hbox hb; have BK542 := q_ (hbox); have GW542 := q_ ((by rw [hg]; exact (below_size (be_ HB.out)) : w.heap.size ≤ gb542)); have GE542 := q_ ((by rw [hg]; exact (below_size (be_ HB.out)) : w.heap.size ≤ gb542)); replace HB := q_ (below_step (be_ HB.out) hb); clear hb hbox hg; obtain ⟨hcz14_0, hcz14_1, hfz14_0, hfz14_1⟩ := bx2_ BK542.out) | ((with_reducible refine gate_callee (f := 99) rfl ?_); refine gl_ (some 18) Try.func99 #[.agg #[.string a0_0, .string a0_1], .int .i64 a1, .int .i64 a2, .slice A3 l3.length c3] rfl al_ ?_; (with_reducible refine (impl_climb.calls k a0_0 a0_1 a1 a2 _ _ l3 t543 true _ ?side1 ?side2 A5.out).mono ?_); (case side1 => exact kc_ (Kd.C_below HR3.out HB.out)); (case side2 => exact HC3.out); rintro e w15 ⟨v544, rfl, ho0, hb⟩; refine ⟨_, rfl, ?_⟩; have HO545 := q_ (Kd.N_lower (Kd.N_mono (ok' := fun k_ => (w.heap.size ≤ k_) ∧ k_ ≠ gb542) ho0 (fun k_ hk_ => ⟨(Nat.le_trans (below_size (bs_ HB.out GE542.out)) hk_), (Kd.freshB (g := gb542) (o := .cells #[.string a0_0, .string a0_1] 26 (0, 0)) (bk_ BK542.out) k_ hk_)⟩)) (below_size (bs_ HB.out GE542.out))); replace BK542 := q_ (bb_ BK542.out hb); replace HB := q_ (below_step (bs_ HB.out GE542.out) hb); (try clear hb); (try clear ho0); obtain ⟨Ao16, co16, eo16⟩ := Kd.N_slice HO545.out; subst eo16; have p547 : 0 ≤ ((ji7) : Int) := od_; have q547 : (ji7) < (t543.length : Int) := od_; obtain ⟨ad547, A547_0, c547_0, e547, hx547_0, hl547_0, hi547_0⟩ := at_L8 (Kd.N_reads' HO545.out).2.2 (ji7) p547 q547; cases e547; obtain ⟨ce547, hce547, hMe547, hcc547⟩ := Kd.N_get HO545.out [] (ji7) p547 (by first | exact q547 | exact od_ | (have e_ := (Kd.N_reads' HO545.out).1; omega)); obtain ⟨ua547_0, uc547_0, rfl, ul547_0, ge547_0⟩ := Kd.FK_slice_open hMe547; have hv547_0 := hcc547 0 _ rfl; rw [Nat.add_zero, show ((Kd.slice 5 (Kd.int .u8))).sz = 1 from rfl, Nat.mul_one] at hv547_0; replace hv547_0 := Option.some.inj (hv547_0.symm.trans hx547_0); injection hv547_0 with hva_ hvn_ hvc_; rw [hva_] at ge547_0; rw [hvc_] at ul547_0; have HL547_0 := q_ (show Kd.V (Kd.int .u8) 5 _ w.heap.size _ _ (rd_L8 t543 (ji7)) from Kd.V_mk ul547_0 ge547_0); clear hva_ hvn_ hvc_ ge547_0 ul547_0; clear hcc547 hce547; have HR547_0 := Aside0.mk hi547_0; have HC547_0 := Aside0.mk hl547_0; clear hi547_0 hl547_0; replace p547 := eq_true p547; replace q547 := eq_true q547) | ((with_reducible refine gate_callee (f := 67) rfl ?_); refine gl_ (some 29) Try.func67 #[.slice A547_0 (rd_L8 t543 (ji7)).length c547_0] rfl (by (try simp only [List.map_toArray, List.map_cons, List.map_nil]); first | done | (simp only [hji7]; rfl) | rfl | (simp only [List.length_drop, List.length_take]; rfl)) ?_; (with_reducible refine (impl_Digest.calls k _ _ (rd_L8 t543 (ji7)) t548 _ ?side1 ?side2 A10.out).mono ?_); (case side1 => repeat (first | exact (by repeat (first | (with_reducible exact HR547_0.out) | (with_reducible refine Kd.C_alloc ?_ _) | (with_reducible refine Kd.C_drewN ?_ _) | (with_reducible refine Kd.C_drew ?_) | exact HR547_0.out)) | (with_reducible refine Kd.C_alloc ?_ _) | (with_reducible refine Kd.C_drewN ?_ _) | (with_reducible refine Kd.C_drew ?_))); (case side2 => exact HC547_0.out); rintro e w17 ⟨rfl, hb⟩; refine ⟨_, rfl, ?_⟩; replace HO545 := q_ (Kd.N_below (by (with_reducible repeat (first | apply Kd.N_alloc | apply Kd.N_drewN | apply Kd.N_drew)); exact HO545.out) hb); replace HL547_0 := q_ (Kd.V_below (by (with_reducible repeat (first | apply Kd.V_alloc | apply Kd.V_drewN | apply Kd.V_drew)); exact HL547_0.out) hb); replace BK542 := q_ (bb_ BK542.out hb); replace HR547_0 := q_ (Kd.C_below (by repeat (first | (with_reducible exact HR547_0.out) | (with_reducible refine Kd.C_alloc ?_ _) | (with_reducible refine Kd.C_drewN ?_ _) | (with_reducible refine Kd.C_drew ?_) | exact HR547_0.out)) hb); replace HB := q_ (below_step (bs_ HB.out GE542.out) hb); (try clear hb)) | ((with_reducible refine gate_callee (f := 59) rfl ?_); refine gl_ (some 33) Try.func59 #[.int .i64 a2, .string t548] rfl al_ ?_; (with_reducible refine (impl_rootBytes.calls k a2 t548 t549 _ A11.out).mono ?_); rintro e w18 ⟨v550, rfl, ho0, hb⟩; refine ⟨_, rfl, ?_⟩; replace HO545 := q_ (Kd.N_elder' (by (with_reducible repeat (first | apply Kd.N_alloc | apply Kd.N_drewN | apply Kd.N_drew)); exact HO545.out) (Kd.R_base ho0) hb); replace HL547_0 := q_ (Kd.V_elder' (by (with_reducible repeat (first | apply Kd.V_alloc | apply Kd.V_drewN | apply Kd.V_drew)); exact HL547_0.out) (Kd.R_base ho0) hb); have HO551 := q_ (Kd.R_lower (Kd.R_newM (M := fun k_ => (w.heap.size ≤ k_)) ho0 (below_size (bs_ HB.out GE542.out)) (fun k_ h_ => h_)) (below_size (bs_ HB.out GE542.out))); replace BK542 := q_ (bb_ BK542.out hb); replace HR547_0 := q_ (Kd.C_below (by repeat (first | (with_reducible exact HR547_0.out) | (with_reducible refine Kd.C_alloc ?_ _) | (with_reducible refine Kd.C_drewN ?_ _) | (with_reducible refine Kd.C_drew ?_) | exact HR547_0.out)) hb); replace HB := q_ (below_step (bs_ HB.out GE542.out) hb); (try clear hb); (try clear ho0); obtain ⟨Ao20, co20, eo20⟩ := Kd.R_slice HO551.out; subst eo20) | ((with_reducible refine gate_builtin (b := .append) (xs := #[.tmp 30, .tmp 34]) rfl ?_); at_builtin; refine Kd.N_append (Kd.slice 5 (Kd.int .u8)) (w0 := w) w.heap.size rfl (.tmp 30) (.tmp 34) 83 22 (.slice none 0 0) 24 rfl Try.underlying83 info22 rfl (by decide) (by omega) (.slice (some ad547) t543.length co16) t543 t549 [.slice Ao20 t549.length co20] (fun k_ => (w.heap.size ≤ k_) ∧ k_ ≠ gb542) (fun k_ => ((fun k_ => (w.heap.size ≤ k_) ∧ k_ ≠ gb542)) k_ ∧ some k_ ≠ (.slice (some ad547) t543.length co16 : Value).ownBlock) rfl rfl ?aP (fun _ hk => hk) ?aF ?aO ?aB ?aS ?aL ?_; (case aP => exact (Kd.FK_slice_mk (Kd.R_reads' (Kd.R_mono (ok' := (fun k_ => ((fun k_ => (w.heap.size ≤ k_) ∧ k_ ≠ gb542)) k_ ∧ some k_ ≠ (.slice (some ad547) t543.length co16 : Value).ownBlock)) (Kd.R_types (Kd.R_apart' (HO551.out) (Kd.N_typed HO545.out) (by decide)) BK542.out (by decide)) (fun k_ hk => ⟨⟨hk.1.1.1, hk.2⟩, hk.1.2⟩))).2.1 (Kd.R_F (Kd.R_mono (ok' := (fun k_ => ((fun k_ => (w.heap.size ≤ k_) ∧ k_ ≠ gb542)) k_ ∧ some k_ ≠ (.slice (some ad547) t543.length co16 : Value).ownBlock)) (Kd.R_types (Kd.R_apart' (HO551.out) (Kd.N_typed HO545.out) (by decide)) BK542.out (by decide)) (fun k_ hk => ⟨⟨hk.1.1.1, hk.2⟩, hk.1.2⟩))))); (case aB => exact (bs_ HB.out GE542.out)); (case aF => exact (fun k_ hk => ⟨(Nat.le_trans (below_size (bs_ HB.out GE542.out)) hk), Kd.freshB (g := gb542) (o := .cells #[.string a0_0, .string a0_1] 26 (0, 0)) (bk_ BK542.out) k_ hk⟩)); (case aO => exact (by (with_reducible repeat (first | apply Kd.N_alloc | apply Kd.N_drewN | apply Kd.N_drew)); exact Kd.N_mono HO545.out (fun _ hk => ⟨hk.1.1, hk.1.2⟩))); (case aS => exact (below_size (bs_ HB.out GE542.out))); (case aL => have := LMc12.out; omega); intro v553 w19 ho hb hg hat; rw [← Ny552.out] at ho; have n0_ := q_ (blk_grown (g := gb542) (o := .cells #[.string a0_0, .string a0_1] 26 (0, 0)) (bk_ BK542.out) hg (Kd.N_ne HO545.out BK542.out (by decide))); have n1_ := q_ (Kd.V_afterv (ok := (fun k_ => (w.heap.size ≤ k_) ∧ some k_ ≠ (.slice Ao20 t549.length co20 : Value).ownBlock ∧ k_ ≠ gb542)) (by (with_reducible repeat (first | apply Kd.V_alloc | apply Kd.V_drewN | apply Kd.V_drew)); exact Kd.V_mono HL547_0.out (fun _ hk => ⟨⟨hk.1.1.1, ⟨hk.2, hk.1.1.2⟩⟩, hk.1.2⟩)) hg hat); have n2_ := q_ (hb); have n3_ := q_ (ho); clear BK542; clear HL547_0; clear HB; clear HO545; clear HO551; have BK542 := n0_; have HL547_0 := n1_; have HB := n2_; have HO554 := n3_; clear n0_ n1_ n2_ n3_; clear ho hb hg hat))
    go_ret2
    exact ⟨_, by first | rfl | (simp [errW_none, errW_some] <;> rfl) | (simp only [← hji7]; first | rfl | (simp [errW_none, errW_some] <;> rfl)) | (simp [*, errW_none, errW_some] <;> rfl), by (with_reducible repeat (first | apply Kd.N_alloc | apply Kd.N_drewN | apply Kd.N_drew)); exact Kd.N_mono HO554.out (fun _ hk => hk.1), bs_ HB.out GE542.out⟩
  · replace c6 := Bool.eq_false_iff.mpr c6
    subst c6
    rw [if_neg (show ¬ (false = true) by decide)] at H
    simp only [Option.some.injEq, Prod.mk.injEq] at H
    obtain ⟨rfl, rfl⟩ := H
    go_enter Try.func56, Try.ntmps56
    go_wp2_with (first | ((with_reducible refine gate_dst (N := 4) rfl ?_); refine box_event rfl (N := 4) rfl (cs := #[.string a0_0, .string a0_1]) (t := 26) hr_ ?_; intro gb542 hg w21 hbox hb; have BK542 := q_ (hbox); have GW542 := q_ ((by rw [hg]; exact (below_size (be_ HB.out)) : w.heap.size ≤ gb542)); have GE542 := q_ ((by rw [hg]; exact (below_size (be_ HB.out)) : w.heap.size ≤ gb542)); replace HB := q_ (below_step (be_ HB.out) hb); clear hb hbox hg; obtain ⟨hcz22_0, hcz22_1, hfz22_0, hfz22_1⟩ := bx2_ BK542.out) | ((with_reducible refine gate_callee (f := 99) rfl ?_); refine gl_ (some 18) Try.func99 #[.agg #[.string a0_0, .string a0_1], .int .i64 a1, .int .i64 a2, .slice A3 l3.length c3] rfl al_ ?_; (with_reducible refine (impl_climb.calls k a0_0 a0_1 a1 a2 _ _ l3 t543 false _ ?side1 ?side2 A5.out).mono ?_); (case side1 => exact kc_ (Kd.C_below HR3.out HB.out)); (case side2 => exact HC3.out); rintro e w23 ⟨v544, rfl, ho0, hb⟩; refine ⟨_, rfl, ?_⟩; have HO545 := q_ (Kd.N_lower (Kd.N_mono (ok' := fun k_ => (w.heap.size ≤ k_) ∧ k_ ≠ gb542) ho0 (fun k_ hk_ => ⟨(Nat.le_trans (below_size (bs_ HB.out GE542.out)) hk_), (Kd.freshB (g := gb542) (o := .cells #[.string a0_0, .string a0_1] 26 (0, 0)) (bk_ BK542.out) k_ hk_)⟩)) (below_size (bs_ HB.out GE542.out))); replace BK542 := q_ (bb_ BK542.out hb); replace HB := q_ (below_step (bs_ HB.out GE542.out) hb); (try clear hb); (try clear ho0)))
    go_ret2
    exact ⟨_, rf_, by first | exact Kd.S_nil _ _ _ _ _ | exact Kd.N_nil _ _ _ _ _ | exact Kd.V_nil _ _ _ _ _ | exact Kd.Q_nil _ _ _ _ _ | exact Kd.R_nil _ _ _ _ _, bs_ HB.out GE542.out⟩

end Go.Proofs.Ytgaalomhipfgjaa.P
