-- Written by wip/xp/xp.py over the kit's print; Lean checks it.
import Derived.Test.YthkaifddpjjmaaaPx0
import Derived.Test.YthkaifddpjjmaaaPx8
import Derived.Test.YthkaifddpjjmaaaPx9
namespace Go.Proofs.Ythkaifddpjjmaaa.P
open Go.RowKit Go.Proofs.YthkaifddpjjmaaaW.PrintWords Go.Proofs.YthkaifddpjjmaaaW.PrintLast Go.Proofs.YthkaifddpjjmaaaW.PrintMore
attribute [local go_sem] max2_int min2_int max_two min_two max_three min_three max_four min_four   -- for this text's walks alone
set_option linter.unusedVariables false
set_option linter.unusedSimpArgs false

/-! ###  impl_half: function 86 -/
def impl_half.l0 : Nat → Int → Int → Option (Int)
  | 0, _, _ => none
  | k + 1, x0, x3 => if (wrap64 (2 * x3)) < x0 then (impl_half.l0 k x0 (wrap64 (x3 * 2))) else (some x3)
def impl_half.f (k : Nat) (a0 : Int) : Option (Int) := impl_half.l0 k a0 1
set_option maxHeartbeats 8000000 in
set_option maxRecDepth 100000 in
theorem impl_half.calls (k : Nat) (a0 : Int) (r : Int) (w : World) (h : impl_half.f k a0 = some r) :
  Calls Try.prog 86 #[.int .i64 a0] w fun e w' => e = .returned (.int .i64 r) ∧ Drawn0 w w' := by
  have H := h
  clear h
  unfold impl_half.f at H
  have H' := Aside0.mk H
  clear H
  go_enter Try.func86, Try.ntmps86
  go_wp2
  go_loopg [3] k (fun kq v3 w' => ∃ (x3_1 : Int), v3 = .int .i64 x3_1 ∧ Aside0 (impl_half.l0 kq a0 x3_1 = some r) ∧ Aside0 (kq ≤ k) ∧ Drawn0 w w')
  case atStart => exact ⟨(1), rs_, H', ⟨Nat.le_refl _⟩, by repeat (first | exact Drawn0.refl _ | apply Drawn0.step)⟩
  case round =>
   clear H'
   obtain ⟨x3_1, rfl, HA, HK1, ⟨m1, rfl⟩⟩ := hrel
   cases gk with
   | zero => exact absurd HA.out (by simp [impl_half.l0])
   | succ k1 =>
    have H := HA.out
    clear HA
    simp only [impl_half.l0] at H
    by_cases c2 : (wrap64 (2 * x3_1)) < a0
    · rw [if_pos c2] at H
      have c2b0 := decide_eq_true c2
      clear c2
      have H' := Aside0.mk H
      clear H
      go_wp2
      go_roundg k1
      case measure => have := HK1.out; omega
      case rel => exact ⟨(wrap64 (x3_1 * 2)), rs_, H', ⟨by have := HK1.out; omega⟩, by repeat (first | exact Drawn0.refl _ | apply Drawn0.step)⟩
    · rw [if_neg c2] at H
      have c2b0 := decide_eq_false c2
      clear c2
      obtain rfl := Option.some.inj H
      go_wp2
      go_ret
      exact ⟨rs_, by repeat (first | exact Drawn0.refl _ | apply Drawn0.step)⟩

/-! ###  impl_putText: function 101 -/
def impl_putText.f (k : Nat) (l0 : List Int) (a1 : ByteArray) : Option (List Int) := (impl_putNum.f k l0 (a1.size : Int)).bind fun t527 => (if t527.length + a1.size < 140737488355328 then (some (t527 ++ bytesOf a1)) else (none))
set_option maxHeartbeats 8000000 in
set_option maxRecDepth 100000 in
theorem impl_putText.calls (k : Nat) (P0_ : Nat → Prop) (u9000_ : Value) (l0 : List Int) (a1 : ByteArray) (r : List Int) (w0 w : World) (hB : Below w0.heap.size w0 w) (ho0 : Kd.R (Kd.int .u8) 5 w w0.heap.size P0_ u9000_ l0) (h : impl_putText.f k l0 a1 = some r) :
  Calls Try.prog 101 #[u9000_, .string a1] w fun e w' => ∃ v0_ : Value, e = .returned (v0_) ∧ Kd.R (Kd.int .u8) 5 w' w0.heap.size (fun k_ => (P0_ k_ ∨ w.heap.size ≤ k_)) v0_ r ∧ Below w0.heap.size w0 w' ∧ Kept w w' (fun k_ => P0_ k_) := by
  have HO0 := q_ (show Kd.R (Kd.int .u8) 5 w w0.heap.size (fun k_ => (P0_ k_ ∨ w.heap.size ≤ k_)) u9000_ l0 from Kd.R_mono ho0 (fun k_ hk => (.inl hk)))
  have HK := q_ (Kept.refl w (fun k_ => P0_ k_))
  have HW0 := Aside0.mk hB.size
  have HB := Aside0.mk hB
  clear hB
  have H := h
  clear h
  unfold impl_putText.f at H
  obtain ⟨t527, A3, H⟩ := bo_ H
  obtain ⟨c4, H⟩ := ip_ H
  have LMc4 := Aside0.mk c4
  clear c4
  obtain ⟨y530, hy530⟩ : ∃ y_ : List Int, y_ = (t527 ++ bytesOf a1) := ⟨_, rfl⟩
  replace H : (some y530) = some r := ry_ hy530 H
  have Ny530 := Aside0.mk hy530
  clear hy530
  obtain rfl := Option.some.inj H
  obtain ⟨Ao5, co5, eo5⟩ := Kd.R_slice HO0.out
  subst eo5
  go_enter Try.func101, Try.ntmps101
  go_wp2_with (first | ((with_reducible refine gate_callee (f := 87) rfl ?_); refine gl_ (some 8) Try.func87 #[.slice Ao5 l0.length co5, .int .i64 (a1.size : Int)] rfl al_ ?_; (with_reducible refine (impl_putNum.calls k (fun k_ => some k_ = (.slice Ao5 l0.length co5 : Value).ownBlock) (.slice Ao5 l0.length co5) l0 (a1.size : Int) t527 w0 _ ?side1 ?side2 A3.out).mono ?_); (case side1 => repeat (first | (with_reducible first | exact HB.out | apply below_alloc | apply pw_below_drewN | apply below_drew1) | exact HB.out)); (case side2 => exact Kd.R_tight rfl HO0.out); rintro e w6 ⟨v528, rfl, ho0, hb, hkp⟩; refine ⟨_, rfl, ?_⟩; have n0_ := q_ (Kd.R_mono (ok' := fun k_ => (P0_ k_ ∨ w.heap.size ≤ k_)) ho0 (fun k_ hk_ => Or.elim hk_ (fun hs_ => (HO0.out.1 k_ (hs_).symm)) (fun hn_ => (.inr (Nat.le_trans (by first | exact HK.out.1 | exact (show Kept w _ (fun k_ => P0_ k_) from by repeat (first | (with_reducible first | exact HK.out | apply Kept.alloc | apply Kept.drewN | apply Kept.drew) | exact HK.out)).1) hn_))))); have n1_ := q_ (Kept.then_ (S := (fun k_ => P0_ k_)) (by repeat (first | (with_reducible first | exact HK.out | apply Kept.alloc | apply Kept.drewN | apply Kept.drew) | exact HK.out)) hkp (fun k_ hs_ => (fun e_ => (HO0.out.1 k_ e_.symm)) hs_)); have n2_ := q_ (hb); clear HK; clear HB; clear HO0; have HO529 := n0_; have HK := n1_; have HB := n2_; clear n0_ n1_ n2_; (try clear hb); (try clear hkp); (try clear ho0)) | ((with_reducible refine gate_builtin (b := .append) (xs := #[.tmp 8, _]) rfl ?_); at_builtin; refine Kd.R_append_str (w0 := w0) w0.heap.size rfl (.tmp 8) _ 22 9 5 rfl Try.underlying22 Try.underlying9 info5 v528 t527 a1 (fun k_ => (P0_ k_ ∨ w.heap.size ≤ k_)) rfl rfl ?aF ?aO ?aB ?aS ?aL ?_; (case aB => exact (be_ HB.out)); (case aF => exact (fun k_ hk => (.inr (Nat.le_trans (by first | exact HK.out.1 | exact (show Kept w _ (fun k_ => P0_ k_) from by repeat (first | (with_reducible first | exact HK.out | apply Kept.alloc | apply Kept.drewN | apply Kept.drew) | exact HK.out)).1) hk)))); (case aO => exact (kr_ HO529.out)); (case aS => exact (below_size (be_ HB.out))); (case aL => have := LMc4.out; omega); intro v531 w7 ho hb hg hat; rw [← Ny530.out] at ho; have n0_ := q_ (hb); have n1_ := q_ (Kept.of_grown (S := (fun k_ => P0_ k_)) hg (by repeat (first | (with_reducible first | exact HK.out | apply Kept.alloc | apply Kept.drewN | apply Kept.drew) | exact HK.out)) (fun k_ e_ => (HO529.out.1 k_ e_))); have n2_ := q_ (ho); clear HB; clear HK; clear HO529; have HB := n0_; have HK := n1_; have HO532 := n2_; clear n0_ n1_ n2_; clear ho hb hg hat))
  go_ret
  exact ⟨_, rf_, by (with_reducible repeat (first | apply Kd.R_alloc | apply Kd.R_drewN | apply Kd.R_drew)); exact HO532.out, be_ HB.out, by repeat (first | (with_reducible first | exact HK.out | apply Kept.alloc | apply Kept.drewN | apply Kept.drew) | exact HK.out)⟩

/-! ###  impl_leafBytes: function 107 -/
def impl_leafBytes.f (k : Nat) (a0_0 : ByteArray) (a0_1 : ByteArray) : Option (List Int) := (impl_putText.f k (([0] : List Int)) a0_0).bind fun t537 => ((impl_putText.f k t537 a0_1).bind fun t540 => (some t540))
def impl_leafBytes.T1 : Bool × List (List Nat × List Nat) := (true, [([], []), ([], []), ([1], [1]), ([0, 2], [0, 2]), ([], []), ([4], [4]), ([3, 5, 3], [3, 5]), ([6, 6, 0, 1, 2, 3, 4, 5, 6], [6])])
def impl_leafBytes.B1 : List Nat := [0, 0, 2, 7, 0, 16, 63, 127]
theorem impl_leafBytes.tab1 : rtab .any (opsOf Try.f107 1) = impl_leafBytes.T1 := by kernel_rfl
theorem impl_leafBytes.bits1 : waitsOk impl_leafBytes.T1.2 impl_leafBytes.B1 = true := by kernel_rfl
set_option maxHeartbeats 8000000 in
set_option maxRecDepth 100000 in
theorem impl_leafBytes.calls (k : Nat) (a0_0 : ByteArray) (a0_1 : ByteArray) (r : List Int) (w : World) (h : impl_leafBytes.f k a0_0 a0_1 = some r) :
  Calls Try.prog 107 #[.agg #[.string a0_0, .string a0_1]] w fun e w' => ∃ v0_ : Value, e = .returned (v0_) ∧ Kd.R (Kd.int .u8) 5 w' w.heap.size (fun _ => True) v0_ r ∧ Below w.heap.size w w' := by
  have hu26 := Try.underlying26
  have HB := q_ (Below.refl w.heap.size w)
  have H := h
  clear h
  unfold impl_leafBytes.f at H
  obtain ⟨y534, hy534⟩ : ∃ y_ : List Int, y_ = (([0] : List Int)) := ⟨_, rfl⟩
  replace H : ((impl_putText.f k y534 a0_0).bind fun t537 => ((impl_putText.f k t537 a0_1).bind fun t540 => (some t540))) = some r := ry_ hy534 H
  have Ny534 := Aside0.mk hy534
  clear hy534
  obtain ⟨t537, A2, H⟩ := bo_ H
  obtain ⟨t540, A3, H⟩ := bo_ H
  obtain rfl := Option.some.inj H
  go_enter Try.func107, Try.ntmps107
  try go_wp2_with (first | ((with_reducible refine gate_dst (N := 1) rfl ?_); refine box_event rfl (N := 1) rfl (cs := #[.string a0_0, .string a0_1]) (t := 26) hr_ ?_; intro gb533 hg w4 hbox hb; have BK533 := q_ (hbox); have GW533 := q_ ((by rw [hg]; exact (below_size (be_ HB.out)) : w.heap.size ≤ gb533)); have GE533 := q_ ((by rw [hg]; exact (below_size (be_ HB.out)) : w.heap.size ≤ gb533)); replace HB := q_ (below_step (be_ HB.out) hb); clear hb hbox hg))
  replace BK533 := q_ (blk_drew BK533.out)
  replace HB := q_ (below_drew1 HB.out)
  refine start_ (n := 8) (S := fun w' => w'.cell? ⟨gb533, 0, none⟩ = some (.string a0_0) ∧ w'.cell? ⟨gb533, 1, none⟩ = some (.string a0_1)) (ds := []) (bq_ 0 8) (by kernel_rfl) rfl rfl ⟨(blk_cell BK533.out 0).trans rfl, (blk_cell BK533.out 1).trans rfl⟩ (fun hHeld => ?_); refine with_tabW impl_leafBytes.tab1 impl_leafBytes.bits1 (fun HT_ HW_ => ?_)
  generalize w4.drew = w5 at BK533 HB hHeld ⊢
  refine p_ 1 4 HT_ ?_; refine p_ 4 7 HT_ ?_; refine k_ 2 5 HT_ HW_ hHeld ?_; refine k_ 5 8 HT_ HW_ hHeld ?_
  refine on_ 0 (some 3) (br_ [3, 1, 2, 2]) HT_ (fun K hK => ?_)
  refine Kd.R_lit_step (Kd.int .u8) _ 5 ?hg (N := 3) ?hd (xs := ([0] : List Int)) (inner := [.int .u8 0]) (ok := fun _ => True) (okp := fun _ => True) ?hr ?hp (fun _ hk => hk) trivial (Below.refl _ _) (Nat.le_refl _) (by simp) ?_; (case hd => rfl); (case hg => rfl); (case hr => first | (go_simp; done) | (go_simp; rfl)); (case hp => exact (Reps.one (show Kd.M (Kd.int .u8) _ _ _ 0 [.int .u8 0] from rfl) (Reps.none _ _)))
  intro v535 w6 ho7 hb hg_ hnew_
  clear hg_ hnew_
  (first | rw [← Ny534.out] at ho7 | (simp only [Int.reduceToNat] at ho7; rw [← Ny534.out] at ho7))
  have HO536 := q_ (Kd.R_lower ho7 (below_size (bs_ HB.out GE533.out)))
  replace BK533 := q_ (bb_ BK533.out hb)
  replace HB := q_ (below_step (bs_ HB.out GE533.out) hb)
  clear hb ho7
  obtain ⟨Ao8, co8, eo8⟩ := Kd.R_slice HO536.out
  (first | subst eo8 | (injection eo8 with f1_ f2_ f3_; have f4_ := f1_.symm; have f5_ := f3_.symm; clear f1_ f2_ f3_; subst f4_; subst f5_))
  refine hK.out _ _ ⟨(blk_cell BK533.out 0).trans rfl, (blk_cell BK533.out 1).trans rfl⟩ (fun hHeld => ?_)
  clear hK K
  refine nm_ ?_
  refine oc_ 3 6 (bq_ 6 2) HT_ Try.func101 #[.slice Ao8 y534.length co8, .string a0_0] ?_
  with_reducible refine (impl_putText.calls k (fun k_ => some k_ = (.slice Ao8 y534.length co8 : Value).ownBlock) (.slice Ao8 y534.length co8) y534 a0_0 t537 w _ ?side1 ?side2 A2.out).mono ?_
  (case side1 => repeat (first | (with_reducible first | exact HB.out | apply below_alloc | apply pw_below_drewN | apply below_drew1 | refine below_set ?_ GE533.out) | exact HB.out))
  (case side2 => exact Kd.R_tight rfl HO536.out)
  rintro e w9 ⟨v538, rfl, ho0, hb, hkp⟩
  refine ⟨_, rfl, ?_⟩
  have n0_ := q_ (blk_kept (bk_ BK533.out) hkp (fun hs_ => (fun e_ => (Kd.R_ne HO536.out BK533.out (by decide)) e_) hs_))
  have n1_ := q_ (Kd.R_mono (ok' := fun k_ => True) ho0 (fun k_ hk_ => trivial))
  have n2_ := q_ (hb)
  clear BK533
  clear HB
  clear HO536
  have BK533 := n0_
  have HO539 := n1_
  have HB := n2_
  clear n0_ n1_ n2_
  (try clear hb)
  (try clear hkp)
  (try clear ho0)
  obtain ⟨Ao10, co10, eo10⟩ := Kd.R_slice HO539.out
  (first | subst eo10 | (injection eo10 with f1_ f2_ f3_; have f4_ := f1_.symm; have f5_ := f3_.symm; clear f1_ f2_ f3_; subst f4_; subst f5_))
  refine ⟨⟨(blk_cell BK533.out 0).trans rfl, (blk_cell BK533.out 1).trans rfl⟩, fun hHeld => nm_ ?_⟩
  refine oc_ 6 9 (bq_ 7 1) HT_ Try.func101 #[.slice Ao10 t537.length co10, .string a0_1] ?_
  with_reducible refine (impl_putText.calls k (fun k_ => some k_ = (.slice Ao10 t537.length co10 : Value).ownBlock) (.slice Ao10 t537.length co10) t537 a0_1 t540 w _ ?side1 ?side2 A3.out).mono ?_
  (case side1 => repeat (first | (with_reducible first | exact HB.out | apply below_alloc | apply pw_below_drewN | apply below_drew1 | refine below_set ?_ GE533.out) | exact HB.out))
  (case side2 => exact Kd.R_tight rfl HO539.out)
  rintro e w11 ⟨v541, rfl, ho0, hb, hkp⟩
  refine ⟨_, rfl, ?_⟩
  have n0_ := q_ (blk_kept (bk_ BK533.out) hkp (fun hs_ => (fun e_ => (Kd.R_ne HO539.out BK533.out (by decide)) e_) hs_))
  have n1_ := q_ (Kd.R_mono (ok' := fun k_ => True) ho0 (fun k_ hk_ => trivial))
  have n2_ := q_ (hb)
  clear BK533
  clear HB
  clear HO539
  have BK533 := n0_
  have HO542 := n1_
  have HB := n2_
  clear n0_ n1_ n2_
  (try clear hb)
  (try clear hkp)
  (try clear ho0)
  refine ⟨⟨(blk_cell BK533.out 0).trans rfl, (blk_cell BK533.out 1).trans rfl⟩, fun hHeld => nm_ ?_⟩
  refine p_ 7 2 HT_ ?_
  refine done_ (done_of HT_.out (by kernel_rfl)) ?_
  try go_wp2
  go_ret
  exact ⟨_, rf_, by (with_reducible repeat (first | apply Kd.R_alloc | apply Kd.R_drewN | apply Kd.R_drew)); exact HO542.out, bs_ HB.out GE533.out⟩

/-! ###  impl_nodeBytes: function 108 -/
def impl_nodeBytes.f (a0 : ByteArray) (a1 : ByteArray) : Option (List Int) := (some (([1] : List Int) : List Int)).bind fun y543 => (if y543.length + a0.size < 140737488355328 then ((some (y543 ++ bytesOf a0 : List Int)).bind fun y546 => (if y546.length + a1.size < 140737488355328 then (some (y546 ++ bytesOf a1)) else (none))) else (none))
set_option maxHeartbeats 8000000 in
set_option maxRecDepth 100000 in
theorem impl_nodeBytes.calls (a0 : ByteArray) (a1 : ByteArray) (r : List Int) (w : World) (h : impl_nodeBytes.f a0 a1 = some r) :
  Calls Try.prog 108 #[.string a0, .string a1] w fun e w' => ∃ v0_ : Value, e = .returned (v0_) ∧ Kd.R (Kd.int .u8) 5 w' w.heap.size (fun _ => True) v0_ r ∧ Below w.heap.size w w' := by
  have HB := q_ (Below.refl w.heap.size w)
  have H := h
  clear h
  unfold impl_nodeBytes.f at H
  obtain ⟨y543, Ny543, H⟩ := by_ H
  obtain ⟨c3, H⟩ := ip_ H
  have LMc3 := Aside0.mk c3
  clear c3
  obtain ⟨y546, Ny546, H⟩ := by_ H
  obtain ⟨c4, H⟩ := ip_ H
  have LMc4 := Aside0.mk c4
  clear c4
  obtain ⟨y549, hy549⟩ : ∃ y_ : List Int, y_ = (y546 ++ bytesOf a1) := ⟨_, rfl⟩
  replace H : (some y549) = some r := ry_ hy549 H
  have Ny549 := Aside0.mk hy549
  clear hy549
  obtain rfl := Option.some.inj H
  go_enter Try.func108, Try.ntmps108
  go_wp2_with (first | ((with_reducible refine gate_dst (N := 5) rfl ?_); refine Kd.R_lit (Kd.int .u8) _ 5 ?hg (N := 5) ?hd (xs := ([1] : List Int)) (inner := [.int .u8 1]) (ok := fun _ => True) (okp := fun _ => True) ?hr ?hp (fun _ hk => hk) trivial (Below.refl _ _) (Nat.le_refl _) (by simp) ?_; (case hd => rfl); (case hg => rfl); (case hr => first | (go_simp; done) | (go_simp; rfl)); (case hp => exact (Reps.one (show Kd.M (Kd.int .u8) _ _ _ 1 [.int .u8 1] from rfl) (Reps.none _ _))); intro v544 w5 ho6 hb hg_ hnew_; clear hg_ hnew_; (first | rw [← Ny543.out] at ho6 | (simp only [Int.reduceToNat] at ho6; rw [← Ny543.out] at ho6)); have HO545 := q_ (Kd.R_lower ho6 (below_size (be_ HB.out))); replace HB := q_ (below_step (be_ HB.out) hb); clear hb ho6) | ((with_reducible refine gate_builtin (b := .append) (xs := #[.tmp 5, _]) rfl ?_); at_builtin; refine Kd.R_append_str (w0 := w) w.heap.size rfl (.tmp 5) _ 22 9 5 rfl Try.underlying22 Try.underlying9 info5 v544 y543 a0 (fun _ => True) rfl rfl ?aF ?aO ?aB ?aS ?aL ?_; (case aB => exact (be_ HB.out)); (case aF => exact (fun _ _ => trivial)); (case aO => exact (kr_ HO545.out)); (case aS => exact (below_size (be_ HB.out))); (case aL => have := LMc3.out; omega); intro v547 w7 ho hb hg hat; rw [← Ny546.out] at ho; have n0_ := q_ (hb); have n1_ := q_ (ho); clear HB; clear HO545; have HB := n0_; have HO548 := n1_; clear n0_ n1_; clear ho hb hg hat) | ((with_reducible refine gate_builtin (b := .append) (xs := #[.tmp 7, _]) rfl ?_); at_builtin; refine Kd.R_append_str (w0 := w) w.heap.size rfl (.tmp 7) _ 22 9 5 rfl Try.underlying22 Try.underlying9 info5 v547 y546 a1 (fun _ => True) rfl rfl ?aF ?aO ?aB ?aS ?aL ?_; (case aB => exact (be_ HB.out)); (case aF => exact (fun _ _ => trivial)); (case aO => exact (kr_ HO548.out)); (case aS => exact (below_size (be_ HB.out))); (case aL => have := LMc4.out; omega); intro v550 w8 ho hb hg hat; rw [← Ny549.out] at ho; have n0_ := q_ (hb); have n1_ := q_ (ho); clear HB; clear HO548; have HB := n0_; have HO551 := n1_; clear n0_ n1_; clear ho hb hg hat))
  go_ret
  exact ⟨_, rf_, by (with_reducible repeat (first | apply Kd.R_alloc | apply Kd.R_drewN | apply Kd.R_drew)); exact HO551.out, be_ HB.out⟩

/-! ###  impl_climb: function 85 -/
mutual
def impl_climb.j0 : Nat → Int → Int → List ByteArray → Int → Bool → ByteArray → ByteArray → Option ((List (List Int)) × Bool)
  | 0, _, _, _, _, _, _, _ => none
  | k + 1, x1, x2, x3, x10, x12, x553000, x553001 => if 0 ≤ x10 then (if x10 ≤ (x3.length : Int) then ((impl_climb.f k x553000 x553001 x1 x2 (x3.take (x10 : Int).toNat)).bind fun bt561 => (if bt561.2 = true then (if 0 ≤ (wrap64 ((bt561.1.length : Int) - 1)) then (if (wrap64 ((bt561.1.length : Int) - 1)) < (bt561.1.length : Int) then ((impl_Digest.f k (rd_L4 bt561.1 (wrap64 ((bt561.1.length : Int) - 1)))).bind fun t566 => (if x12 = true then (if x10 < (x3.length : Int) then ((impl_nodeBytes.f (rdOf ByteArray.empty x3 x10) t566).bind fun t568 => (if bt561.1.length < 5864062014805 then (some ((bt561.1 ++ [t568]), true)) else (none))) else (none)) else (if x10 < (x3.length : Int) then ((impl_nodeBytes.f t566 (rdOf ByteArray.empty x3 x10)).bind fun t575 => (if bt561.1.length < 5864062014805 then (some ((bt561.1 ++ [t575]), true)) else (none))) else (none)))) else (none)) else (none)) else (some (([] : List (List Int)), false)))) else (none)) else (none)
def impl_climb.f : Nat → ByteArray → ByteArray → Int → Int → List ByteArray → Option ((List (List Int)) × Bool)
  | 0, _, _, _, _, _ => none
  | k + 1, a0_0, a0_1, a1, a2, l3 => if a2 = 1 then ((impl_leafBytes.f k a0_0 a0_1).bind fun t553 => (some ((([t553] : List (List Int))), ((l3.length : Int) == 0)))) else (if (wrap64 ((l3.length : Int) - 1)) < 0 then (some (([] : List (List Int)), false)) else ((impl_half.f k a2).bind fun t559 => (if a1 ≥ t559 then (impl_climb.j0 k (wrap64 (a1 - t559)) (wrap64 (a2 - t559)) l3 (wrap64 ((l3.length : Int) - 1)) (decide (a1 ≥ t559)) a0_0 a0_1) else (impl_climb.j0 k a1 t559 l3 (wrap64 ((l3.length : Int) - 1)) (decide (a1 ≥ t559)) a0_0 a0_1))))
end
def impl_climb.T11 : Bool × List (List Nat × List Nat) := (true, [([], []), ([], []), ([], []), ([], []), ([], []), ([3, 4], [3, 4]), ([0, 1, 2, 5], [0, 1, 2, 5]), ([6], [6]), ([7], [7]), ([7], [7]), ([8, 6, 0, 1, 2, 3, 4, 5, 6, 7, 8], [8]), ([9, 10, 0, 1, 2, 3, 4, 5, 6, 7, 8, 9, 10], [9])])
def impl_climb.B11 : List Nat := [0, 0, 0, 0, 0, 24, 63, 127, 255, 255, 511, 2047]
theorem impl_climb.tab11 : rtab .any (opsOf Try.f85 11) = impl_climb.T11 := by kernel_rfl
theorem impl_climb.bits11 : waitsOk impl_climb.T11.2 impl_climb.B11 = true := by kernel_rfl
set_option maxHeartbeats 8000000 in
set_option maxRecDepth 100000 in
theorem impl_climb.calls (k : Nat) : ∀ (a0_0 : ByteArray) (a0_1 : ByteArray) (a1 : Int) (a2 : Int) (A3 : Option Addr) (c3 : Nat) (l3 : List ByteArray) (r1 : List (List Int)) (r2 : Bool) (w : World) (hr3 : Kd.C Kd.string w A3 l3.length l3) (hc3 : l3.length ≤ c3) (h : impl_climb.f k a0_0 a0_1 a1 a2 l3 = some (r1, r2)),
  Calls Try.prog 85 #[.agg #[.string a0_0, .string a0_1], .int .i64 a1, .int .i64 a2, .slice A3 l3.length c3] w fun e w' => ∃ v0_ : Value, e = .returned (.tuple #[v0_, .bool r2]) ∧ Kd.N (Kd.slice 5 (Kd.int .u8)) 22 w' w.heap.size (fun k_ => (w.heap.size ≤ k_)) v0_ r1 ∧ Below w.heap.size w w' := by
  induction k using Nat.strongRecOn with
  | _ k ih =>
  intro a0_0 a0_1 a1 a2 A3 c3 l3 r1 r2 w hr3 hc3 h
  cases k with
  | zero => exact absurd h (by simp [impl_climb.f])
  | succ k =>
  simp only [impl_climb.f] at h
  have hu26 := Try.underlying26
  have HR3 := Aside0.mk hr3
  have HC3 := Aside0.mk hc3
  clear hr3 hc3
  have HB := q_ (Below.refl w.heap.size w)
  have H : (if a2 = 1 then ((impl_leafBytes.f k a0_0 a0_1).bind fun t553 => (some ((([t553] : List (List Int))), ((l3.length : Int) == 0)))) else (if (wrap64 ((l3.length : Int) - 1)) < 0 then (some (([] : List (List Int)), false)) else ((impl_half.f k a2).bind fun t559 => (if a1 ≥ t559 then (impl_climb.j0 k (wrap64 (a1 - t559)) (wrap64 (a2 - t559)) l3 (wrap64 ((l3.length : Int) - 1)) (decide (a1 ≥ t559)) a0_0 a0_1) else (impl_climb.j0 k a1 t559 l3 (wrap64 ((l3.length : Int) - 1)) (decide (a1 ≥ t559)) a0_0 a0_1))))) = some (r1, r2) := h
  clear h
  by_cases c5 : a2 = 1
  · rw [if_pos c5] at H
    have c5b0 := beq_iff_eq.mpr c5
    have c5b1 := bne_eq_false_iff_eq.mpr c5
    clear c5
    obtain ⟨t553, A6, H⟩ := bo_ H
    obtain ⟨y556, hy556⟩ : ∃ y_ : List (List Int), y_ = (([t553] : List (List Int))) := ⟨_, rfl⟩
    replace H : (some (y556, ((l3.length : Int) == 0))) = some (r1, r2) := ry_ hy556 H
    have Ny556 := Aside0.mk hy556
    clear hy556
    simp only [Option.some.injEq, Prod.mk.injEq] at H
    obtain ⟨rfl, rfl⟩ := H
    go_enter Try.func85, Try.ntmps85
    go_wp2_with (first | ((with_reducible refine gate_dst (N := 4) rfl ?_); refine box_event rfl (N := 4) rfl (cs := #[.string a0_0, .string a0_1]) (t := 26) hr_ ?_; intro gb552 hg w7 hbox hb; have BK552 := q_ (hbox); have GW552 := q_ ((by rw [hg]; exact (below_size (be_ HB.out)) : w.heap.size ≤ gb552)); have GE552 := q_ ((by rw [hg]; exact (below_size (be_ HB.out)) : w.heap.size ≤ gb552)); replace HB := q_ (below_step (be_ HB.out) hb); clear hb hbox hg; obtain ⟨hcz8_0, hcz8_1, hfz8_0, hfz8_1⟩ := bx2_ BK552.out) | ((with_reducible refine gate_callee (f := 107) rfl ?_); refine gl_ (some 19) Try.func107 #[.agg #[.string a0_0, .string a0_1]] rfl al_ ?_; (with_reducible refine (impl_leafBytes.calls k a0_0 a0_1 t553 _ A6.out).mono ?_); rintro e w9 ⟨v554, rfl, ho0, hb⟩; refine ⟨_, rfl, ?_⟩; have HO555 := q_ (Kd.R_lower (Kd.R_newM (M := fun k_ => (w.heap.size ≤ k_)) ho0 (below_size (bs_ HB.out GE552.out)) (fun k_ h_ => h_)) (below_size (bs_ HB.out GE552.out))); replace BK552 := q_ (bb_ BK552.out hb); replace HB := q_ (below_step (bs_ HB.out GE552.out) hb); (try clear hb); (try clear ho0); obtain ⟨Ao10, co10, eo10⟩ := Kd.R_slice HO555.out; subst eo10) | ((with_reducible refine gate_dst (N := 20) rfl ?_); refine Kd.N_lit (Kd.slice 5 (Kd.int .u8)) _ 22 ?hg (N' := 20) ?hd (xs := ([t553] : List (List Int))) (inner := [.slice Ao10 t553.length co10]) (ok := (fun k_ => (w.heap.size ≤ k_) ∧ k_ ≠ gb552)) (okp := (fun k_ => (w.heap.size ≤ k_) ∧ k_ ≠ gb552)) ?hr ?hp (fun _ hk => hk) ((show ∀ k_, w9.heap.size ≤ k_ → (fun k_ => (w.heap.size ≤ k_) ∧ k_ ≠ gb552) k_ from fun k_ hk => ⟨(Nat.le_trans (below_size (bs_ HB.out GE552.out)) hk), Kd.freshB (g := gb552) (o := .cells #[.string a0_0, .string a0_1] 26 (0, 0)) (bk_ BK552.out) k_ hk⟩) _ (Nat.le_refl _)) (Below.refl _ _) (Nat.le_refl _) (by simp) ?_; (case hd => rfl); (case hg => rfl); (case hr => first | (go_simp; done) | (go_simp; rfl)); (case hp => exact (Reps.one (show Kd.FK (Kd.slice 5 (Kd.int .u8)) _ _ t553 [.slice Ao10 t553.length co10] from (Kd.FK_slice_mk (Kd.R_reads' (Kd.R_mono (ok' := (fun k_ => (w.heap.size ≤ k_) ∧ k_ ≠ gb552)) (Kd.R_types (HO555.out) BK552.out (by decide)) (fun k_ hk => ⟨hk.1.1, hk.2⟩))).2.1 (Kd.R_F (Kd.R_mono (ok' := (fun k_ => (w.heap.size ≤ k_) ∧ k_ ≠ gb552)) (Kd.R_types (HO555.out) BK552.out (by decide)) (fun k_ hk => ⟨hk.1.1, hk.2⟩))))) (Reps.none _ _))); intro v557 w11 ho12 hb hg_ hnew_; clear hg_ hnew_; (first | rw [← Ny556.out] at ho12 | (simp only [Int.reduceToNat] at ho12; rw [← Ny556.out] at ho12)); have n0_ := q_ (Kd.N_lower ho12 (below_size (bs_ HB.out GE552.out))); have n1_ := q_ (bb_ BK552.out hb); have n2_ := q_ (below_step (bs_ HB.out GE552.out) hb); clear BK552; clear HB; clear HO555; have HO558 := n0_; have BK552 := n1_; have HB := n2_; clear n0_ n1_ n2_; clear hb ho12))
    go_ret2
    exact ⟨_, rf_, by (with_reducible repeat (first | apply Kd.N_alloc | apply Kd.N_drewN | apply Kd.N_drew)); exact Kd.N_mono HO558.out (fun _ hk => hk.1), bs_ HB.out GE552.out⟩
  · rw [if_neg c5] at H
    have c5b0 := beq_eq_false_iff_ne.mpr c5
    have c5b1 := bne_iff_ne.mpr c5
    by_cases c13 : (wrap64 ((l3.length : Int) - 1)) < 0
    · rw [if_pos c13] at H
      have c13b0 := decide_eq_true c13
      clear c13
      simp only [Option.some.injEq, Prod.mk.injEq] at H
      obtain ⟨rfl, rfl⟩ := H
      go_enter Try.func85, Try.ntmps85
      go_wp2_with (first | ((with_reducible refine gate_dst (N := 4) rfl ?_); refine box_event rfl (N := 4) rfl (cs := #[.string a0_0, .string a0_1]) (t := 26) hr_ ?_; intro gb552 hg w14 hbox hb; have BK552 := q_ (hbox); have GW552 := q_ ((by rw [hg]; exact (below_size (be_ HB.out)) : w.heap.size ≤ gb552)); have GE552 := q_ ((by rw [hg]; exact (below_size (be_ HB.out)) : w.heap.size ≤ gb552)); replace HB := q_ (below_step (be_ HB.out) hb); clear hb hbox hg))
      go_ret2
      exact ⟨_, rf_, by first | exact Kd.S_nil _ _ _ _ _ | exact Kd.N_nil _ _ _ _ _ | exact Kd.V_nil _ _ _ _ _ | exact Kd.Q_nil _ _ _ _ _ | exact Kd.R_nil _ _ _ _ _, bs_ HB.out GE552.out⟩
    · rw [if_neg c13] at H
      have c13b0 := decide_eq_false c13
      clear c13
      obtain ⟨t559, A15, H⟩ := bo_ H
      have HC16 := Aside0.mk H
      clear H
      go_enter Try.func85, Try.ntmps85
      go_upto_if 34 with (first | ((with_reducible refine gate_dst (N := 4) rfl ?_); refine box_event rfl (N := 4) rfl (cs := #[.string a0_0, .string a0_1]) (t := 26) hr_ ?_; intro gb552 hg w17 hbox hb; have BK552 := q_ (hbox); have GW552 := q_ ((by rw [hg]; exact (below_size (be_ HB.out)) : w.heap.size ≤ gb552)); have GE552 := q_ ((by rw [hg]; exact (below_size (be_ HB.out)) : w.heap.size ≤ gb552)); replace HB := q_ (below_step (be_ HB.out) hb); clear hb hbox hg) | ((with_reducible refine gate_callee (f := 86) rfl ?_); refine gl_ (some 30) Try.func86 #[.int .i64 a2] rfl al_ ?_; (with_reducible refine (impl_half.calls k a2 t559 _ A15.out).mono ?_); rintro e w' ⟨rfl, ⟨nd, rfl⟩⟩; refine ⟨_, rfl, ?_⟩))
      (try simp only [Act.put, sa_, sz_, ss_])
      obtain ⟨bq_, hbq_⟩ : ∃ b_ : Bool, decide (t559 ≤ a1) = b_ := ⟨_, rfl⟩
      try rw [hbq_]
      have BQ_ := Aside0.mk hbq_
      clear hbq_
      go_cut [1, 2] (fun v1 v2 wc => ∃ (kq : Nat) (x1_15 : Int) (x2_15 : Int), v1 = .int .i64 x1_15 ∧ v2 = .int .i64 x2_15 ∧ Aside0 (impl_climb.j0 kq x1_15 x2_15 l3 (wrap64 ((l3.length : Int) - 1)) (decide (a1 ≥ t559)) a0_0 a0_1 = some (r1, r2)) ∧ Aside0 (kq ≤ k) ∧ Aside0 (wc.heap[gb552]? = some (.cells #[.string a0_0, .string a0_1] 26 (0, 0))) ∧ Aside0 (Below w.heap.size w wc))
      case first =>
       have H := HC16.out
       clear HC16
       by_cases c18 : a1 ≥ t559
       rotate_left
       · rw [if_neg c18] at H
         have c18b0 : decide (t559 ≤ a1) = false := decide_eq_false c18
         obtain rfl : bq_ = false := BQ_.out.symm.trans c18b0
         clear c18
         (first | rw [c18b0] | (simp only [i64_w, i32_w]; rw [c18b0]) | skip)
         have H' := Aside0.mk H
         clear H
         go_wp2
         go_meet
         case rel => exact ⟨_, (a1), (t559), rs_, rs_, H', ⟨by first | omega | exact Nat.le_refl _⟩, ⟨by (with_reducible repeat (first | refine blk_drewN ?_ _ | refine blk_drew ?_ | refine blk_alloc ?_ _)); exact BK552.out⟩, ⟨bs_ HB.out GE552.out⟩⟩
       rw [if_pos c18] at H
       have c18b0 : decide (t559 ≤ a1) = true := decide_eq_true c18
       obtain rfl : bq_ = true := BQ_.out.symm.trans c18b0
       clear c18
       (first | rw [c18b0] | (simp only [i64_w, i32_w]; rw [c18b0]) | skip)
       have H' := Aside0.mk H
       clear H
       go_wp2
       go_meet
       case rel => exact ⟨_, (wrap64 (a1 - t559)), (wrap64 (a2 - t559)), rs_, rs_, H', ⟨by first | omega | exact Nat.le_refl _⟩, ⟨by (with_reducible repeat (first | refine blk_drewN ?_ _ | refine blk_drew ?_ | refine blk_alloc ?_ _)); exact BK552.out⟩, ⟨bs_ HB.out GE552.out⟩⟩
      case rest =>
       obtain rfl := BQ_.out
       clear HC16
       try clear c1
       try clear p2
       try clear c3
       try clear c5
       try clear c5b0
       try clear c5b1
       try clear p6
       try clear c8
       try clear c10
       try clear c13
       try clear c13b0
       try clear c18
       try clear c18b0
       try clear hcz8_0
       try clear hcz8_1
       try clear hfz8_0
       try clear hfz8_1
       obtain ⟨kq, x1_15, x2_15, rfl, rfl, HA, HJ15, BK552, HB⟩ := hcut
       cases kq with
       | zero => exact absurd HA.out (by simp [impl_climb.j0])
       | succ kj15 =>
        have H := HA.out
        clear HA
        simp only [impl_climb.j0] at H
        obtain ⟨ji19, hji19⟩ : ∃ j_ : Int, (wrap64 ((l3.length : Int) - 1)) = j_ := ⟨_, rfl⟩
        replace H : (if 0 ≤ (ji19) then (if (ji19) ≤ (l3.length : Int) then ((impl_climb.f kj15 a0_0 a0_1 x1_15 x2_15 (l3.take ((ji19) : Int).toNat)).bind fun bt561 => (if bt561.2 = true then (if 0 ≤ (wrap64 ((bt561.1.length : Int) - 1)) then (if (wrap64 ((bt561.1.length : Int) - 1)) < (bt561.1.length : Int) then ((impl_Digest.f kj15 (rd_L4 bt561.1 (wrap64 ((bt561.1.length : Int) - 1)))).bind fun t566 => (if (decide (a1 ≥ t559)) = true then (if (ji19) < (l3.length : Int) then ((impl_nodeBytes.f (rdOf ByteArray.empty l3 (ji19)) t566).bind fun t568 => (if bt561.1.length < 5864062014805 then (some ((bt561.1 ++ [t568]), true)) else (none))) else (none)) else (if (ji19) < (l3.length : Int) then ((impl_nodeBytes.f t566 (rdOf ByteArray.empty l3 (ji19))).bind fun t575 => (if bt561.1.length < 5864062014805 then (some ((bt561.1 ++ [t575]), true)) else (none))) else (none)))) else (none)) else (none)) else (some (([] : List (List Int)), false)))) else (none)) else (none)) = some (r1, r2) := by first | (rw [hji19] at H; exact H) | (simp only [hji19] at H ⊢; exact H)
        (try rw [hji19] at c13b0)
        have hji19w : (IntKind.i64.wrap ((l3.length : Int) - 1)) = ji19 := (i64_w _).trans hji19
        obtain ⟨c20, H⟩ := ip_ H
        have c20b0 := eq_true c20
        have c20b1 : decide (0 ≤ (ji19)) = true := decide_eq_true c20
        clear c20
        obtain ⟨c21, H⟩ := ip_ H
        have c21b0 := eq_true c21
        have c21b1 : decide ((ji19) ≤ (l3.length : Int)) = true := decide_eq_true c21
        clear c21
        obtain ⟨⟨t561, t564⟩, A22, H⟩ := bo_ H; try dsimp only at H
        by_cases c23 : t564 = true
        · subst c23
          rw [if_pos rfl] at H
          obtain ⟨ji24, hji24⟩ : ∃ j_ : Int, (wrap64 ((t561.length : Int) - 1)) = j_ := ⟨_, rfl⟩
          replace H : (if 0 ≤ (ji24) then (if (ji24) < (t561.length : Int) then ((impl_Digest.f kj15 (rd_L4 t561 (ji24))).bind fun t566 => (if (decide (a1 ≥ t559)) = true then (if (ji19) < (l3.length : Int) then ((impl_nodeBytes.f (rdOf ByteArray.empty l3 (ji19)) t566).bind fun t568 => (if t561.length < 5864062014805 then (some ((t561 ++ [t568]), true)) else (none))) else (none)) else (if (ji19) < (l3.length : Int) then ((impl_nodeBytes.f t566 (rdOf ByteArray.empty l3 (ji19))).bind fun t575 => (if t561.length < 5864062014805 then (some ((t561 ++ [t575]), true)) else (none))) else (none)))) else (none)) else (none)) = some (r1, r2) := by first | (rw [hji24] at H; exact H) | (simp only [hji24] at H ⊢; exact H)
          (try rw [hji24] at A22)
          have hji24w : (IntKind.i64.wrap ((t561.length : Int) - 1)) = ji24 := (i64_w _).trans hji24
          obtain ⟨c25, H⟩ := ip_ H
          have c25b0 : decide (0 ≤ (ji24)) = true := decide_eq_true c25
          clear c25
          obtain ⟨c26, H⟩ := ip_ H
          have c26b0 : decide ((ji24) < (t561.length : Int)) = true := decide_eq_true c26
          clear c26
          obtain ⟨t566, A27, H⟩ := bo_ H
          by_cases c28 : (decide (a1 ≥ t559)) = true
          · rw [if_pos c28] at H
            have c28b0 : (decide (a1 ≥ t559)) = true := c28
            clear c28
            obtain ⟨c29, H⟩ := ip_ H
            have c29b0 : decide ((ji19) < (l3.length : Int)) = true := decide_eq_true c29
            clear c29
            obtain ⟨t568, A30, H⟩ := bo_ H
            obtain ⟨c31, H⟩ := ip_ H
            have LMc31 := Aside0.mk c31
            clear c31
            obtain ⟨y571, hy571⟩ : ∃ y_ : List (List Int), y_ = (t561 ++ [t568]) := ⟨_, rfl⟩
            replace H : (some (y571, true)) = some (r1, r2) := ry_ hy571 H
            have Ny571 := Aside0.mk hy571
            clear hy571
            simp only [Option.some.injEq, Prod.mk.injEq] at H
            obtain ⟨rfl, rfl⟩ := H
            try go_wp2
            replace BK552 := q_ (blk_drew BK552.out)
            replace HB := q_ (below_drew1 HB.out)
            obtain ⟨i033, hi033, _, hsz33, _⟩ := info_parts info9
            obtain ⟨hcut33, hA33, hC33⟩ := print_take_of (P := Try.prog) Value.string (⟨#[]⟩ : ByteArray) 27 9 .i64 Try.underlying27 hi033 hsz33 A3 c3 l3 (ji19) od_ od_ HC3.out
            have HR560 := q_ (Kd.C_of_reads (h1 := fun _ => rfl) (hA33 _ (Kd.reads_of_C HR3.out)))
            have HC560 := Aside0.mk hC33
            clear hA33 hC33 hi033 hsz33
            refine start_ (n := 12) (S := fun w' => w'.cell? ⟨gb552, 0, none⟩ = some (.string a0_0) ∧ w'.cell? ⟨gb552, 1, none⟩ = some (.string a0_1)) (ds := []) (bq_ 0 12) (by kernel_rfl) rfl rfl ⟨(blk_cell BK552.out 0).trans rfl, (blk_cell BK552.out 1).trans rfl⟩ (fun hHeld => ?_); refine with_tabW impl_climb.tab11 impl_climb.bits11 (fun HT_ HW_ => ?_)
            generalize wc.drew = w32 at BK552 HB HR560 hHeld ⊢
            refine p_ 1 44 HT_ ?_; refine p_ 2 45 HT_ ?_; refine p_ 3 46 HT_ ?_; refine p_ 4 47 HT_ ?_; refine p_ 5 48 HT_ ?_; refine k_ 0 43 HT_ HW_ hHeld ?_
            refine on_ 6 (some 49) (bq_ 7 5) HT_ (fun K hK => ?_)
            refine goes_ Try.func85 (by kernel_rfl) rfl #[.agg #[.string a0_0, .string a0_1], .int .i64 x1_15, .int .i64 x2_15, .slice A3 (l3.take ((ji19) : Int).toNat).length c3] (by rfl) rfl rfl (by (try simp only [List.map_toArray, List.map_cons, List.map_nil]); first | done | (rw [show (l3.take ((ji19) : Int).toNat).length = (ji19).toNat from (by rw [List.length_take]; have h_ : ((ji19) : Int) ≤ (l3.length : Int) := od_; omega)] <;> rfl) | (simp only [hji19]; rfl) | rfl | (simp only [List.length_drop, List.length_take]; rfl)) ?_
            with_reducible refine (ih kj15 (by have := HJ15.out; omega) a0_0 a0_1 x1_15 x2_15 _ _ (l3.take ((ji19) : Int).toNat) t561 true _ ?side1 ?side2 A22.out).mono ?_
            (case side1 => exact kc_ (Kd.C_below HR560.out HB.out))
            (case side2 => exact HC560.out)
            rintro e w34 ⟨v562, rfl, ho0, hb⟩
            refine ⟨_, rfl, ?_⟩
            have HO563 := q_ (Kd.N_lower (Kd.N_mono (ok' := fun k_ => (w.heap.size ≤ k_) ∧ k_ ≠ gb552) ho0 (fun k_ hk_ => ⟨(Nat.le_trans (below_size (bs_ HB.out GE552.out)) hk_), (Kd.freshB (g := gb552) (o := .cells #[.string a0_0, .string a0_1] 26 (0, 0)) (bk_ BK552.out) k_ hk_)⟩)) (below_size (bs_ HB.out GE552.out)))
            replace BK552 := q_ (bb_ BK552.out hb)
            replace HB := q_ (below_step (bs_ HB.out GE552.out) hb)
            (try clear hb)
            (try clear hb2)
            (try clear hk)
            (try clear hi)
            (try clear ho0)
            refine hK.out _ _ ⟨(blk_cell BK552.out 0).trans rfl, (blk_cell BK552.out 1).trans rfl⟩ (fun hHeld => ?_)
            clear hK K
            refine nm_ ?_
            refine p_ 7 42 HT_ ?_; refine p_ 8 50 HT_ ?_; refine p_ 9 51 HT_ ?_; refine p_ 10 13 HT_ ?_; refine p_ 11 14 HT_ ?_
            refine done_ (done_of HT_.out (by kernel_rfl)) ?_
            obtain ⟨Ao35, co35, eo35⟩ := Kd.N_slice HO563.out
            subst eo35
            have p565 : 0 ≤ ((ji24) : Int) := od_
            have q565 : (ji24) < (t561.length : Int) := od_
            obtain ⟨ad565, A565_0, c565_0, e565, hx565_0, hl565_0, hi565_0⟩ := at_L4 (Kd.N_reads' HO563.out).2.2 (ji24) p565 q565
            cases e565
            obtain ⟨ce565, hce565, hMe565, hcc565⟩ := Kd.N_get HO563.out [] (ji24) p565 (by first | exact q565 | exact od_ | (have e_ := (Kd.N_reads' HO563.out).1; omega))
            obtain ⟨ua565_0, uc565_0, rfl, ul565_0, ge565_0⟩ := Kd.FK_slice_open hMe565
            have hv565_0 := hcc565 0 _ rfl
            rw [Nat.add_zero, show ((Kd.slice 5 (Kd.int .u8))).sz = 1 from rfl, Nat.mul_one] at hv565_0
            replace hv565_0 := Option.some.inj (hv565_0.symm.trans hx565_0)
            injection hv565_0 with hva_ hvn_ hvc_
            rw [hva_] at ge565_0
            rw [hvc_] at ul565_0
            have HL565_0 := q_ (show Kd.V (Kd.int .u8) 5 _ w.heap.size _ _ (rd_L4 t561 (ji24)) from Kd.V_mk ul565_0 ge565_0)
            clear hva_ hvn_ hvc_ ge565_0 ul565_0
            clear hcc565 hce565
            have HR565_0 := Aside0.mk hi565_0
            have HC565_0 := Aside0.mk hl565_0
            clear hi565_0 hl565_0
            replace p565 := eq_true p565
            replace q565 := eq_true q565
            try go_wp2_with (first | ((with_reducible refine gate_callee (f := 53) rfl ?_); refine gl_ (some 60) Try.func53 #[.slice A565_0 (rd_L4 t561 (ji24)).length c565_0] rfl (by (try simp only [List.map_toArray, List.map_cons, List.map_nil]); first | done | (simp only [hji24]; rfl) | rfl | (simp only [List.length_drop, List.length_take]; rfl)) ?_; (with_reducible refine (impl_Digest.calls kj15 _ _ (rd_L4 t561 (ji24)) t566 _ ?side1 ?side2 A27.out).mono ?_); (case side1 => repeat (first | exact (by repeat (first | (with_reducible exact HR565_0.out) | (with_reducible refine Kd.C_alloc ?_ _) | (with_reducible refine Kd.C_drewN ?_ _) | (with_reducible refine Kd.C_drew ?_) | exact HR565_0.out)) | (with_reducible refine Kd.C_alloc ?_ _) | (with_reducible refine Kd.C_drewN ?_ _) | (with_reducible refine Kd.C_drew ?_))); (case side2 => exact HC565_0.out); rintro e w36 ⟨rfl, hb⟩; refine ⟨_, rfl, ?_⟩; replace HO563 := q_ (Kd.N_below (by (with_reducible repeat (first | apply Kd.N_alloc | apply Kd.N_drewN | apply Kd.N_drew)); exact HO563.out) hb); replace HL565_0 := q_ (Kd.V_below (by (with_reducible repeat (first | apply Kd.V_alloc | apply Kd.V_drewN | apply Kd.V_drew)); exact HL565_0.out) hb); replace BK552 := q_ (bb_ BK552.out hb); replace HR565_0 := q_ (Kd.C_below (by repeat (first | (with_reducible exact HR565_0.out) | (with_reducible refine Kd.C_alloc ?_ _) | (with_reducible refine Kd.C_drewN ?_ _) | (with_reducible refine Kd.C_drew ?_) | exact HR565_0.out)) hb); replace HB := q_ (below_step (bs_ HB.out GE552.out) hb); (try clear hb); have p567 : 0 ≤ ((ji19) : Int) := od_; have q567 : (ji19) < (l3.length : Int) := od_; obtain ⟨ad567, e567, hx567_0⟩ := Kd.at_string HR3.out (ji19) p567 q567; cases e567; replace hx567_0 := hc_ HB.out hx567_0; replace p567 := eq_true p567; replace q567 := eq_true q567) | ((with_reducible refine gate_callee (f := 108) rfl ?_); refine gl_ (some 68) Try.func108 #[.string (rdOf ByteArray.empty l3 (ji19)), .string t566] rfl (by (try simp only [List.map_toArray, List.map_cons, List.map_nil]); first | done | (simp only [hji19]; rfl) | rfl | (simp only [List.length_drop, List.length_take]; rfl)) ?_; (with_reducible refine (impl_nodeBytes.calls (rdOf ByteArray.empty l3 (ji19)) t566 t568 _ A30.out).mono ?_); rintro e w37 ⟨v569, rfl, ho0, hb⟩; refine ⟨_, rfl, ?_⟩; replace HO563 := q_ (Kd.N_elder' (by (with_reducible repeat (first | apply Kd.N_alloc | apply Kd.N_drewN | apply Kd.N_drew)); exact HO563.out) (Kd.R_base ho0) hb); replace HL565_0 := q_ (Kd.V_elder' (by (with_reducible repeat (first | apply Kd.V_alloc | apply Kd.V_drewN | apply Kd.V_drew)); exact HL565_0.out) (Kd.R_base ho0) hb); have HO570 := q_ (Kd.R_lower (Kd.R_newM (M := fun k_ => (w.heap.size ≤ k_)) ho0 (below_size (bs_ HB.out GE552.out)) (fun k_ h_ => h_)) (below_size (bs_ HB.out GE552.out))); replace BK552 := q_ (bb_ BK552.out hb); replace HR565_0 := q_ (Kd.C_below (by repeat (first | (with_reducible exact HR565_0.out) | (with_reducible refine Kd.C_alloc ?_ _) | (with_reducible refine Kd.C_drewN ?_ _) | (with_reducible refine Kd.C_drew ?_) | exact HR565_0.out)) hb); replace HB := q_ (below_step (bs_ HB.out GE552.out) hb); (try clear hb); (try clear ho0); obtain ⟨Ao39, co39, eo39⟩ := Kd.R_slice HO570.out; subst eo39) | ((with_reducible refine gate_builtin (b := .append) (xs := #[.tmp 62, .tmp 69]) rfl ?_); at_builtin; refine Kd.N_append (Kd.slice 5 (Kd.int .u8)) (w0 := w) w.heap.size rfl (.tmp 62) (.tmp 69) 68 22 (.slice none 0 0) 24 rfl Try.underlying68 info22 rfl (by decide) (by omega) (.slice (some ad565) t561.length co35) t561 t568 [.slice Ao39 t568.length co39] (fun k_ => (w.heap.size ≤ k_) ∧ k_ ≠ gb552) (fun k_ => ((fun k_ => (w.heap.size ≤ k_) ∧ k_ ≠ gb552)) k_ ∧ some k_ ≠ (.slice (some ad565) t561.length co35 : Value).ownBlock) rfl rfl ?aP (fun _ hk => hk) ?aF ?aO ?aB ?aS ?aL ?_; (case aP => exact (Kd.FK_slice_mk (Kd.R_reads' (Kd.R_mono (ok' := (fun k_ => ((fun k_ => (w.heap.size ≤ k_) ∧ k_ ≠ gb552)) k_ ∧ some k_ ≠ (.slice (some ad565) t561.length co35 : Value).ownBlock)) (Kd.R_types (Kd.R_apart' (HO570.out) (Kd.N_typed HO563.out) (by decide)) BK552.out (by decide)) (fun k_ hk => ⟨⟨hk.1.1.1, hk.2⟩, hk.1.2⟩))).2.1 (Kd.R_F (Kd.R_mono (ok' := (fun k_ => ((fun k_ => (w.heap.size ≤ k_) ∧ k_ ≠ gb552)) k_ ∧ some k_ ≠ (.slice (some ad565) t561.length co35 : Value).ownBlock)) (Kd.R_types (Kd.R_apart' (HO570.out) (Kd.N_typed HO563.out) (by decide)) BK552.out (by decide)) (fun k_ hk => ⟨⟨hk.1.1.1, hk.2⟩, hk.1.2⟩))))); (case aB => exact (bs_ HB.out GE552.out)); (case aF => exact (fun k_ hk => ⟨(Nat.le_trans (below_size (bs_ HB.out GE552.out)) hk), Kd.freshB (g := gb552) (o := .cells #[.string a0_0, .string a0_1] 26 (0, 0)) (bk_ BK552.out) k_ hk⟩)); (case aO => exact (by (with_reducible repeat (first | apply Kd.N_alloc | apply Kd.N_drewN | apply Kd.N_drew)); exact Kd.N_mono HO563.out (fun _ hk => ⟨hk.1.1, hk.1.2⟩))); (case aS => exact (below_size (bs_ HB.out GE552.out))); (case aL => have := LMc31.out; omega); intro v572 w38 ho hb hg hat; rw [← Ny571.out] at ho; have n0_ := q_ (blk_grown (g := gb552) (o := .cells #[.string a0_0, .string a0_1] 26 (0, 0)) (bk_ BK552.out) hg (Kd.N_ne HO563.out BK552.out (by decide))); have n1_ := q_ (Kd.V_afterv (ok := (fun k_ => (w.heap.size ≤ k_) ∧ some k_ ≠ (.slice Ao39 t568.length co39 : Value).ownBlock ∧ k_ ≠ gb552)) (by (with_reducible repeat (first | apply Kd.V_alloc | apply Kd.V_drewN | apply Kd.V_drew)); exact Kd.V_mono HL565_0.out (fun _ hk => ⟨⟨hk.1.1.1, ⟨hk.2, hk.1.1.2⟩⟩, hk.1.2⟩)) hg hat); have n2_ := q_ (hb); have n3_ := q_ (ho); clear BK552; clear HL565_0; clear HB; clear HO563; clear HO570; have BK552 := n0_; have HL565_0 := n1_; have HB := n2_; have HO573 := n3_; clear n0_ n1_ n2_ n3_; clear ho hb hg hat))
            go_ret2
            exact ⟨_, by first | rfl | (simp [errW_none, errW_some] <;> rfl) | (simp only [← hji19, ← hji24]; first | rfl | (simp [errW_none, errW_some] <;> rfl)) | (simp [*, errW_none, errW_some] <;> rfl), by (with_reducible repeat (first | apply Kd.N_alloc | apply Kd.N_drewN | apply Kd.N_drew)); exact Kd.N_mono HO573.out (fun _ hk => hk.1), bs_ HB.out GE552.out⟩
          rw [if_neg c28] at H
          have c28b0 : (decide (a1 ≥ t559)) = false := by simpa using c28
          clear c28
          obtain ⟨c40, H⟩ := ip_ H
          have c40b0 : decide ((ji19) < (l3.length : Int)) = true := decide_eq_true c40
          clear c40
          obtain ⟨t575, A41, H⟩ := bo_ H
          obtain ⟨c42, H⟩ := ip_ H
          have LMc42 := Aside0.mk c42
          clear c42
          obtain ⟨y578, hy578⟩ : ∃ y_ : List (List Int), y_ = (t561 ++ [t575]) := ⟨_, rfl⟩
          replace H : (some (y578, true)) = some (r1, r2) := ry_ hy578 H
          have Ny578 := Aside0.mk hy578
          clear hy578
          simp only [Option.some.injEq, Prod.mk.injEq] at H
          obtain ⟨rfl, rfl⟩ := H
          try go_wp2
          replace BK552 := q_ (blk_drew BK552.out)
          replace HB := q_ (below_drew1 HB.out)
          obtain ⟨i044, hi044, _, hsz44, _⟩ := info_parts info9
          obtain ⟨hcut44, hA44, hC44⟩ := print_take_of (P := Try.prog) Value.string (⟨#[]⟩ : ByteArray) 27 9 .i64 Try.underlying27 hi044 hsz44 A3 c3 l3 (ji19) od_ od_ HC3.out
          have HR560 := q_ (Kd.C_of_reads (h1 := fun _ => rfl) (hA44 _ (Kd.reads_of_C HR3.out)))
          have HC560 := Aside0.mk hC44
          clear hA44 hC44 hi044 hsz44
          refine start_ (n := 12) (S := fun w' => w'.cell? ⟨gb552, 0, none⟩ = some (.string a0_0) ∧ w'.cell? ⟨gb552, 1, none⟩ = some (.string a0_1)) (ds := []) (bq_ 0 12) (by kernel_rfl) rfl rfl ⟨(blk_cell BK552.out 0).trans rfl, (blk_cell BK552.out 1).trans rfl⟩ (fun hHeld => ?_); refine with_tabW impl_climb.tab11 impl_climb.bits11 (fun HT_ HW_ => ?_)
          generalize wc.drew = w43 at BK552 HB HR560 hHeld ⊢
          refine p_ 1 44 HT_ ?_; refine p_ 2 45 HT_ ?_; refine p_ 3 46 HT_ ?_; refine p_ 4 47 HT_ ?_; refine p_ 5 48 HT_ ?_; refine k_ 0 43 HT_ HW_ hHeld ?_
          refine on_ 6 (some 49) (bq_ 7 5) HT_ (fun K hK => ?_)
          refine goes_ Try.func85 (by kernel_rfl) rfl #[.agg #[.string a0_0, .string a0_1], .int .i64 x1_15, .int .i64 x2_15, .slice A3 (l3.take ((ji19) : Int).toNat).length c3] (by rfl) rfl rfl (by (try simp only [List.map_toArray, List.map_cons, List.map_nil]); first | done | (rw [show (l3.take ((ji19) : Int).toNat).length = (ji19).toNat from (by rw [List.length_take]; have h_ : ((ji19) : Int) ≤ (l3.length : Int) := od_; omega)] <;> rfl) | (simp only [hji19]; rfl) | rfl | (simp only [List.length_drop, List.length_take]; rfl)) ?_
          with_reducible refine (ih kj15 (by have := HJ15.out; omega) a0_0 a0_1 x1_15 x2_15 _ _ (l3.take ((ji19) : Int).toNat) t561 true _ ?side1 ?side2 A22.out).mono ?_
          (case side1 => exact kc_ (Kd.C_below HR560.out HB.out))
          (case side2 => exact HC560.out)
          rintro e w45 ⟨v562, rfl, ho0, hb⟩
          refine ⟨_, rfl, ?_⟩
          have HO563 := q_ (Kd.N_lower (Kd.N_mono (ok' := fun k_ => (w.heap.size ≤ k_) ∧ k_ ≠ gb552) ho0 (fun k_ hk_ => ⟨(Nat.le_trans (below_size (bs_ HB.out GE552.out)) hk_), (Kd.freshB (g := gb552) (o := .cells #[.string a0_0, .string a0_1] 26 (0, 0)) (bk_ BK552.out) k_ hk_)⟩)) (below_size (bs_ HB.out GE552.out)))
          replace BK552 := q_ (bb_ BK552.out hb)
          replace HB := q_ (below_step (bs_ HB.out GE552.out) hb)
          (try clear hb)
          (try clear hb2)
          (try clear hk)
          (try clear hi)
          (try clear ho0)
          refine hK.out _ _ ⟨(blk_cell BK552.out 0).trans rfl, (blk_cell BK552.out 1).trans rfl⟩ (fun hHeld => ?_)
          clear hK K
          refine nm_ ?_
          refine p_ 7 42 HT_ ?_; refine p_ 8 50 HT_ ?_; refine p_ 9 51 HT_ ?_; refine p_ 10 13 HT_ ?_; refine p_ 11 14 HT_ ?_
          refine done_ (done_of HT_.out (by kernel_rfl)) ?_
          obtain ⟨Ao46, co46, eo46⟩ := Kd.N_slice HO563.out
          subst eo46
          have p565 : 0 ≤ ((ji24) : Int) := od_
          have q565 : (ji24) < (t561.length : Int) := od_
          obtain ⟨ad565, A565_0, c565_0, e565, hx565_0, hl565_0, hi565_0⟩ := at_L4 (Kd.N_reads' HO563.out).2.2 (ji24) p565 q565
          cases e565
          obtain ⟨ce565, hce565, hMe565, hcc565⟩ := Kd.N_get HO563.out [] (ji24) p565 (by first | exact q565 | exact od_ | (have e_ := (Kd.N_reads' HO563.out).1; omega))
          obtain ⟨ua565_0, uc565_0, rfl, ul565_0, ge565_0⟩ := Kd.FK_slice_open hMe565
          have hv565_0 := hcc565 0 _ rfl
          rw [Nat.add_zero, show ((Kd.slice 5 (Kd.int .u8))).sz = 1 from rfl, Nat.mul_one] at hv565_0
          replace hv565_0 := Option.some.inj (hv565_0.symm.trans hx565_0)
          injection hv565_0 with hva_ hvn_ hvc_
          rw [hva_] at ge565_0
          rw [hvc_] at ul565_0
          have HL565_0 := q_ (show Kd.V (Kd.int .u8) 5 _ w.heap.size _ _ (rd_L4 t561 (ji24)) from Kd.V_mk ul565_0 ge565_0)
          clear hva_ hvn_ hvc_ ge565_0 ul565_0
          clear hcc565 hce565
          have HR565_0 := Aside0.mk hi565_0
          have HC565_0 := Aside0.mk hl565_0
          clear hi565_0 hl565_0
          replace p565 := eq_true p565
          replace q565 := eq_true q565
          try go_wp2_with (first | ((with_reducible refine gate_callee (f := 53) rfl ?_); refine gl_ (some 60) Try.func53 #[.slice A565_0 (rd_L4 t561 (ji24)).length c565_0] rfl (by (try simp only [List.map_toArray, List.map_cons, List.map_nil]); first | done | (simp only [hji24]; rfl) | rfl | (simp only [List.length_drop, List.length_take]; rfl)) ?_; (with_reducible refine (impl_Digest.calls kj15 _ _ (rd_L4 t561 (ji24)) t566 _ ?side1 ?side2 A27.out).mono ?_); (case side1 => repeat (first | exact (by repeat (first | (with_reducible exact HR565_0.out) | (with_reducible refine Kd.C_alloc ?_ _) | (with_reducible refine Kd.C_drewN ?_ _) | (with_reducible refine Kd.C_drew ?_) | exact HR565_0.out)) | (with_reducible refine Kd.C_alloc ?_ _) | (with_reducible refine Kd.C_drewN ?_ _) | (with_reducible refine Kd.C_drew ?_))); (case side2 => exact HC565_0.out); rintro e w47 ⟨rfl, hb⟩; refine ⟨_, rfl, ?_⟩; replace HO563 := q_ (Kd.N_below (by (with_reducible repeat (first | apply Kd.N_alloc | apply Kd.N_drewN | apply Kd.N_drew)); exact HO563.out) hb); replace HL565_0 := q_ (Kd.V_below (by (with_reducible repeat (first | apply Kd.V_alloc | apply Kd.V_drewN | apply Kd.V_drew)); exact HL565_0.out) hb); replace BK552 := q_ (bb_ BK552.out hb); replace HR565_0 := q_ (Kd.C_below (by repeat (first | (with_reducible exact HR565_0.out) | (with_reducible refine Kd.C_alloc ?_ _) | (with_reducible refine Kd.C_drewN ?_ _) | (with_reducible refine Kd.C_drew ?_) | exact HR565_0.out)) hb); replace HB := q_ (below_step (bs_ HB.out GE552.out) hb); (try clear hb); have p574 : 0 ≤ ((ji19) : Int) := od_; have q574 : (ji19) < (l3.length : Int) := od_; obtain ⟨ad574, e574, hx574_0⟩ := Kd.at_string HR3.out (ji19) p574 q574; cases e574; replace hx574_0 := hc_ HB.out hx574_0; replace p574 := eq_true p574; replace q574 := eq_true q574) | ((with_reducible refine gate_callee (f := 108) rfl ?_); refine gl_ (some 77) Try.func108 #[.string t566, .string (rdOf ByteArray.empty l3 (ji19))] rfl (by (try simp only [List.map_toArray, List.map_cons, List.map_nil]); first | done | (simp only [hji19]; rfl) | rfl | (simp only [List.length_drop, List.length_take]; rfl)) ?_; (with_reducible refine (impl_nodeBytes.calls t566 (rdOf ByteArray.empty l3 (ji19)) t575 _ A41.out).mono ?_); rintro e w48 ⟨v576, rfl, ho0, hb⟩; refine ⟨_, rfl, ?_⟩; replace HO563 := q_ (Kd.N_elder' (by (with_reducible repeat (first | apply Kd.N_alloc | apply Kd.N_drewN | apply Kd.N_drew)); exact HO563.out) (Kd.R_base ho0) hb); replace HL565_0 := q_ (Kd.V_elder' (by (with_reducible repeat (first | apply Kd.V_alloc | apply Kd.V_drewN | apply Kd.V_drew)); exact HL565_0.out) (Kd.R_base ho0) hb); have HO577 := q_ (Kd.R_lower (Kd.R_newM (M := fun k_ => (w.heap.size ≤ k_)) ho0 (below_size (bs_ HB.out GE552.out)) (fun k_ h_ => h_)) (below_size (bs_ HB.out GE552.out))); replace BK552 := q_ (bb_ BK552.out hb); replace HR565_0 := q_ (Kd.C_below (by repeat (first | (with_reducible exact HR565_0.out) | (with_reducible refine Kd.C_alloc ?_ _) | (with_reducible refine Kd.C_drewN ?_ _) | (with_reducible refine Kd.C_drew ?_) | exact HR565_0.out)) hb); replace HB := q_ (below_step (bs_ HB.out GE552.out) hb); (try clear hb); (try clear ho0); obtain ⟨Ao50, co50, eo50⟩ := Kd.R_slice HO577.out; subst eo50) | ((with_reducible refine gate_builtin (b := .append) (xs := #[.tmp 71, .tmp 78]) rfl ?_); at_builtin; refine Kd.N_append (Kd.slice 5 (Kd.int .u8)) (w0 := w) w.heap.size rfl (.tmp 71) (.tmp 78) 68 22 (.slice none 0 0) 24 rfl Try.underlying68 info22 rfl (by decide) (by omega) (.slice (some ad565) t561.length co46) t561 t575 [.slice Ao50 t575.length co50] (fun k_ => (w.heap.size ≤ k_) ∧ k_ ≠ gb552) (fun k_ => ((fun k_ => (w.heap.size ≤ k_) ∧ k_ ≠ gb552)) k_ ∧ some k_ ≠ (.slice (some ad565) t561.length co46 : Value).ownBlock) rfl rfl ?aP (fun _ hk => hk) ?aF ?aO ?aB ?aS ?aL ?_; (case aP => exact (Kd.FK_slice_mk (Kd.R_reads' (Kd.R_mono (ok' := (fun k_ => ((fun k_ => (w.heap.size ≤ k_) ∧ k_ ≠ gb552)) k_ ∧ some k_ ≠ (.slice (some ad565) t561.length co46 : Value).ownBlock)) (Kd.R_types (Kd.R_apart' (HO577.out) (Kd.N_typed HO563.out) (by decide)) BK552.out (by decide)) (fun k_ hk => ⟨⟨hk.1.1.1, hk.2⟩, hk.1.2⟩))).2.1 (Kd.R_F (Kd.R_mono (ok' := (fun k_ => ((fun k_ => (w.heap.size ≤ k_) ∧ k_ ≠ gb552)) k_ ∧ some k_ ≠ (.slice (some ad565) t561.length co46 : Value).ownBlock)) (Kd.R_types (Kd.R_apart' (HO577.out) (Kd.N_typed HO563.out) (by decide)) BK552.out (by decide)) (fun k_ hk => ⟨⟨hk.1.1.1, hk.2⟩, hk.1.2⟩))))); (case aB => exact (bs_ HB.out GE552.out)); (case aF => exact (fun k_ hk => ⟨(Nat.le_trans (below_size (bs_ HB.out GE552.out)) hk), Kd.freshB (g := gb552) (o := .cells #[.string a0_0, .string a0_1] 26 (0, 0)) (bk_ BK552.out) k_ hk⟩)); (case aO => exact (by (with_reducible repeat (first | apply Kd.N_alloc | apply Kd.N_drewN | apply Kd.N_drew)); exact Kd.N_mono HO563.out (fun _ hk => ⟨hk.1.1, hk.1.2⟩))); (case aS => exact (below_size (bs_ HB.out GE552.out))); (case aL => have := LMc42.out; omega); intro v579 w49 ho hb hg hat; rw [← Ny578.out] at ho; have n0_ := q_ (blk_grown (g := gb552) (o := .cells #[.string a0_0, .string a0_1] 26 (0, 0)) (bk_ BK552.out) hg (Kd.N_ne HO563.out BK552.out (by decide))); have n1_ := q_ (Kd.V_afterv (ok := (fun k_ => (w.heap.size ≤ k_) ∧ some k_ ≠ (.slice Ao50 t575.length co50 : Value).ownBlock ∧ k_ ≠ gb552)) (by (with_reducible repeat (first | apply Kd.V_alloc | apply Kd.V_drewN | apply Kd.V_drew)); exact Kd.V_mono HL565_0.out (fun _ hk => ⟨⟨hk.1.1.1, ⟨hk.2, hk.1.1.2⟩⟩, hk.1.2⟩)) hg hat); have n2_ := q_ (hb); have n3_ := q_ (ho); clear BK552; clear HL565_0; clear HB; clear HO563; clear HO577; have BK552 := n0_; have HL565_0 := n1_; have HB := n2_; have HO580 := n3_; clear n0_ n1_ n2_ n3_; clear ho hb hg hat))
          go_ret2
          exact ⟨_, by first | rfl | (simp [errW_none, errW_some] <;> rfl) | (simp only [← hji19, ← hji24]; first | rfl | (simp [errW_none, errW_some] <;> rfl)) | (simp [*, errW_none, errW_some] <;> rfl), by (with_reducible repeat (first | apply Kd.N_alloc | apply Kd.N_drewN | apply Kd.N_drew)); exact Kd.N_mono HO580.out (fun _ hk => hk.1), bs_ HB.out GE552.out⟩
        · replace c23 := Bool.eq_false_iff.mpr c23
          subst c23
          rw [if_neg (show ¬ (false = true) by decide)] at H
          simp only [Option.some.injEq, Prod.mk.injEq] at H
          obtain ⟨rfl, rfl⟩ := H
          try go_wp2
          replace BK552 := q_ (blk_drew BK552.out)
          replace HB := q_ (below_drew1 HB.out)
          obtain ⟨i052, hi052, _, hsz52, _⟩ := info_parts info9
          obtain ⟨hcut52, hA52, hC52⟩ := print_take_of (P := Try.prog) Value.string (⟨#[]⟩ : ByteArray) 27 9 .i64 Try.underlying27 hi052 hsz52 A3 c3 l3 (ji19) od_ od_ HC3.out
          have HR560 := q_ (Kd.C_of_reads (h1 := fun _ => rfl) (hA52 _ (Kd.reads_of_C HR3.out)))
          have HC560 := Aside0.mk hC52
          clear hA52 hC52 hi052 hsz52
          refine start_ (n := 12) (S := fun w' => w'.cell? ⟨gb552, 0, none⟩ = some (.string a0_0) ∧ w'.cell? ⟨gb552, 1, none⟩ = some (.string a0_1)) (ds := []) (bq_ 0 12) (by kernel_rfl) rfl rfl ⟨(blk_cell BK552.out 0).trans rfl, (blk_cell BK552.out 1).trans rfl⟩ (fun hHeld => ?_); refine with_tabW impl_climb.tab11 impl_climb.bits11 (fun HT_ HW_ => ?_)
          generalize wc.drew = w51 at BK552 HB HR560 hHeld ⊢
          refine p_ 1 44 HT_ ?_; refine p_ 2 45 HT_ ?_; refine p_ 3 46 HT_ ?_; refine p_ 4 47 HT_ ?_; refine p_ 5 48 HT_ ?_; refine k_ 0 43 HT_ HW_ hHeld ?_
          refine on_ 6 (some 49) (bq_ 7 5) HT_ (fun K hK => ?_)
          refine goes_ Try.func85 (by kernel_rfl) rfl #[.agg #[.string a0_0, .string a0_1], .int .i64 x1_15, .int .i64 x2_15, .slice A3 (l3.take ((ji19) : Int).toNat).length c3] (by rfl) rfl rfl (by (try simp only [List.map_toArray, List.map_cons, List.map_nil]); first | done | (rw [show (l3.take ((ji19) : Int).toNat).length = (ji19).toNat from (by rw [List.length_take]; have h_ : ((ji19) : Int) ≤ (l3.length : Int) := od_; omega)] <;> rfl) | (simp only [hji19]; rfl) | rfl | (simp only [List.length_drop, List.length_take]; rfl)) ?_
          with_reducible refine (ih kj15 (by have := HJ15.out; omega) a0_0 a0_1 x1_15 x2_15 _ _ (l3.take ((ji19) : Int).toNat) t561 false _ ?side1 ?side2 A22.out).mono ?_
          (case side1 => exact kc_ (Kd.C_below HR560.out HB.out))
          (case side2 => exact HC560.out)
          rintro e w53 ⟨v562, rfl, ho0, hb⟩
          refine ⟨_, rfl, ?_⟩
          have HO563 := q_ (Kd.N_lower (Kd.N_mono (ok' := fun k_ => (w.heap.size ≤ k_) ∧ k_ ≠ gb552) ho0 (fun k_ hk_ => ⟨(Nat.le_trans (below_size (bs_ HB.out GE552.out)) hk_), (Kd.freshB (g := gb552) (o := .cells #[.string a0_0, .string a0_1] 26 (0, 0)) (bk_ BK552.out) k_ hk_)⟩)) (below_size (bs_ HB.out GE552.out)))
          replace BK552 := q_ (bb_ BK552.out hb)
          replace HB := q_ (below_step (bs_ HB.out GE552.out) hb)
          (try clear hb)
          (try clear hb2)
          (try clear hk)
          (try clear hi)
          (try clear ho0)
          refine hK.out _ _ ⟨(blk_cell BK552.out 0).trans rfl, (blk_cell BK552.out 1).trans rfl⟩ (fun hHeld => ?_)
          clear hK K
          refine nm_ ?_
          refine p_ 7 42 HT_ ?_; refine p_ 8 50 HT_ ?_; refine p_ 9 51 HT_ ?_; refine p_ 10 13 HT_ ?_; refine p_ 11 14 HT_ ?_
          refine done_ (done_of HT_.out (by kernel_rfl)) ?_
          try go_wp2
          go_ret2
          exact ⟨_, by first | rfl | (simp [errW_none, errW_some] <;> rfl) | (simp only [← hji19]; first | rfl | (simp [errW_none, errW_some] <;> rfl)) | (simp [*, errW_none, errW_some] <;> rfl), by first | exact Kd.S_nil _ _ _ _ _ | exact Kd.N_nil _ _ _ _ _ | exact Kd.V_nil _ _ _ _ _ | exact Kd.Q_nil _ _ _ _ _ | exact Kd.R_nil _ _ _ _ _, bs_ HB.out GE552.out⟩

/-! ###  impl_wayTo: function 42 -/
def impl_wayTo.f (k : Nat) (a0_0 : ByteArray) (a0_1 : ByteArray) (a1 : Int) (a2 : Int) (l3 : List ByteArray) : Option ((List (List Int)) × Bool) := (impl_climb.f k a0_0 a0_1 a1 a2 l3).bind fun bt582 => (if bt582.2 = true then (if 0 ≤ (wrap64 ((bt582.1.length : Int) - 1)) then (if (wrap64 ((bt582.1.length : Int) - 1)) < (bt582.1.length : Int) then ((impl_Digest.f k (rd_L4 bt582.1 (wrap64 ((bt582.1.length : Int) - 1)))).bind fun t587 => ((impl_rootBytes.f k a2 t587).bind fun t588 => (if bt582.1.length < 5864062014805 then (some ((bt582.1 ++ [t588]), true)) else (none)))) else (none)) else (none)) else (some (([] : List (List Int)), false)))
set_option maxHeartbeats 8000000 in
set_option maxRecDepth 100000 in
theorem impl_wayTo.calls (k : Nat) (a0_0 : ByteArray) (a0_1 : ByteArray) (a1 : Int) (a2 : Int) (A3 : Option Addr) (c3 : Nat) (l3 : List ByteArray) (r1 : List (List Int)) (r2 : Bool) (w : World) (hr3 : Kd.C Kd.string w A3 l3.length l3) (hc3 : l3.length ≤ c3) (h : impl_wayTo.f k a0_0 a0_1 a1 a2 l3 = some (r1, r2)) :
  Calls Try.prog 42 #[.agg #[.string a0_0, .string a0_1], .int .i64 a1, .int .i64 a2, .slice A3 l3.length c3] w fun e w' => ∃ v0_ : Value, e = .returned (.tuple #[v0_, .bool r2]) ∧ Kd.N (Kd.slice 5 (Kd.int .u8)) 22 w' w.heap.size (fun k_ => (w.heap.size ≤ k_)) v0_ r1 ∧ Below w.heap.size w w' := by
  have hu26 := Try.underlying26
  have HR3 := Aside0.mk hr3
  have HC3 := Aside0.mk hc3
  clear hr3 hc3
  have HB := q_ (Below.refl w.heap.size w)
  have H := h
  clear h
  unfold impl_wayTo.f at H
  obtain ⟨⟨t582, t585⟩, A5, H⟩ := bo_ H; try dsimp only at H
  by_cases c6 : t585 = true
  · subst c6
    rw [if_pos rfl] at H
    obtain ⟨ji7, hji7⟩ : ∃ j_ : Int, (wrap64 ((t582.length : Int) - 1)) = j_ := ⟨_, rfl⟩
    replace H : (if 0 ≤ (ji7) then (if (ji7) < (t582.length : Int) then ((impl_Digest.f k (rd_L4 t582 (ji7))).bind fun t587 => ((impl_rootBytes.f k a2 t587).bind fun t588 => (if t582.length < 5864062014805 then (some ((t582 ++ [t588]), true)) else (none)))) else (none)) else (none)) = some (r1, r2) := by first | (rw [hji7] at H; exact H) | (simp only [hji7] at H ⊢; exact H)
    (try rw [hji7] at A5)
    have hji7w : (IntKind.i64.wrap ((t582.length : Int) - 1)) = ji7 := (i64_w _).trans hji7
    obtain ⟨c8, H⟩ := ip_ H
    have c8b0 : decide (0 ≤ (ji7)) = true := decide_eq_true c8
    clear c8
    obtain ⟨c9, H⟩ := ip_ H
    have c9b0 : decide ((ji7) < (t582.length : Int)) = true := decide_eq_true c9
    clear c9
    obtain ⟨t587, A10, H⟩ := bo_ H
    obtain ⟨t588, A11, H⟩ := bo_ H
    obtain ⟨c12, H⟩ := ip_ H
    have LMc12 := Aside0.mk c12
    clear c12
    obtain ⟨y591, hy591⟩ : ∃ y_ : List (List Int), y_ = (t582 ++ [t588]) := ⟨_, rfl⟩
    replace H : (some (y591, true)) = some (r1, r2) := ry_ hy591 H
    have Ny591 := Aside0.mk hy591
    clear hy591
    simp only [Option.some.injEq, Prod.mk.injEq] at H
    obtain ⟨rfl, rfl⟩ := H
    go_enter Try.func42, Try.ntmps42
    go_wp2_with (first | ((with_reducible refine gate_dst (N := 4) rfl ?_); refine box_event rfl (N := 4) rfl (cs := #[.string a0_0, .string a0_1]) (t := 26) hr_ ?_; intro gb581 hg w13 hbox hb; have BK581 := q_ (hbox); have GW581 := q_ ((by rw [hg]; exact (below_size (be_ HB.out)) : w.heap.size ≤ gb581)); have GE581 := q_ ((by rw [hg]; exact (below_size (be_ HB.out)) : w.heap.size ≤ gb581)); replace HB := q_ (below_step (be_ HB.out) hb); clear hb hbox hg; obtain ⟨hcz14_0, hcz14_1, hfz14_0, hfz14_1⟩ := bx2_ BK581.out) | ((with_reducible refine gate_callee (f := 85) rfl ?_); refine gl_ (some 18) Try.func85 #[.agg #[.string a0_0, .string a0_1], .int .i64 a1, .int .i64 a2, .slice A3 l3.length c3] rfl al_ ?_; (with_reducible refine (impl_climb.calls k a0_0 a0_1 a1 a2 _ _ l3 t582 true _ ?side1 ?side2 A5.out).mono ?_); (case side1 => exact kc_ (Kd.C_below HR3.out HB.out)); (case side2 => exact HC3.out); rintro e w15 ⟨v583, rfl, ho0, hb⟩; refine ⟨_, rfl, ?_⟩; have HO584 := q_ (Kd.N_lower (Kd.N_mono (ok' := fun k_ => (w.heap.size ≤ k_) ∧ k_ ≠ gb581) ho0 (fun k_ hk_ => ⟨(Nat.le_trans (below_size (bs_ HB.out GE581.out)) hk_), (Kd.freshB (g := gb581) (o := .cells #[.string a0_0, .string a0_1] 26 (0, 0)) (bk_ BK581.out) k_ hk_)⟩)) (below_size (bs_ HB.out GE581.out))); replace BK581 := q_ (bb_ BK581.out hb); replace HB := q_ (below_step (bs_ HB.out GE581.out) hb); (try clear hb); (try clear ho0); obtain ⟨Ao16, co16, eo16⟩ := Kd.N_slice HO584.out; subst eo16; have p586 : 0 ≤ ((ji7) : Int) := od_; have q586 : (ji7) < (t582.length : Int) := od_; obtain ⟨ad586, A586_0, c586_0, e586, hx586_0, hl586_0, hi586_0⟩ := at_L4 (Kd.N_reads' HO584.out).2.2 (ji7) p586 q586; cases e586; obtain ⟨ce586, hce586, hMe586, hcc586⟩ := Kd.N_get HO584.out [] (ji7) p586 (by first | exact q586 | exact od_ | (have e_ := (Kd.N_reads' HO584.out).1; omega)); obtain ⟨ua586_0, uc586_0, rfl, ul586_0, ge586_0⟩ := Kd.FK_slice_open hMe586; have hv586_0 := hcc586 0 _ rfl; rw [Nat.add_zero, show ((Kd.slice 5 (Kd.int .u8))).sz = 1 from rfl, Nat.mul_one] at hv586_0; replace hv586_0 := Option.some.inj (hv586_0.symm.trans hx586_0); injection hv586_0 with hva_ hvn_ hvc_; rw [hva_] at ge586_0; rw [hvc_] at ul586_0; have HL586_0 := q_ (show Kd.V (Kd.int .u8) 5 _ w.heap.size _ _ (rd_L4 t582 (ji7)) from Kd.V_mk ul586_0 ge586_0); clear hva_ hvn_ hvc_ ge586_0 ul586_0; clear hcc586 hce586; have HR586_0 := Aside0.mk hi586_0; have HC586_0 := Aside0.mk hl586_0; clear hi586_0 hl586_0; replace p586 := eq_true p586; replace q586 := eq_true q586) | ((with_reducible refine gate_callee (f := 53) rfl ?_); refine gl_ (some 29) Try.func53 #[.slice A586_0 (rd_L4 t582 (ji7)).length c586_0] rfl (by (try simp only [List.map_toArray, List.map_cons, List.map_nil]); first | done | (simp only [hji7]; rfl) | rfl | (simp only [List.length_drop, List.length_take]; rfl)) ?_; (with_reducible refine (impl_Digest.calls k _ _ (rd_L4 t582 (ji7)) t587 _ ?side1 ?side2 A10.out).mono ?_); (case side1 => repeat (first | exact (by repeat (first | (with_reducible exact HR586_0.out) | (with_reducible refine Kd.C_alloc ?_ _) | (with_reducible refine Kd.C_drewN ?_ _) | (with_reducible refine Kd.C_drew ?_) | exact HR586_0.out)) | (with_reducible refine Kd.C_alloc ?_ _) | (with_reducible refine Kd.C_drewN ?_ _) | (with_reducible refine Kd.C_drew ?_))); (case side2 => exact HC586_0.out); rintro e w17 ⟨rfl, hb⟩; refine ⟨_, rfl, ?_⟩; replace HO584 := q_ (Kd.N_below (by (with_reducible repeat (first | apply Kd.N_alloc | apply Kd.N_drewN | apply Kd.N_drew)); exact HO584.out) hb); replace HL586_0 := q_ (Kd.V_below (by (with_reducible repeat (first | apply Kd.V_alloc | apply Kd.V_drewN | apply Kd.V_drew)); exact HL586_0.out) hb); replace BK581 := q_ (bb_ BK581.out hb); replace HR586_0 := q_ (Kd.C_below (by repeat (first | (with_reducible exact HR586_0.out) | (with_reducible refine Kd.C_alloc ?_ _) | (with_reducible refine Kd.C_drewN ?_ _) | (with_reducible refine Kd.C_drew ?_) | exact HR586_0.out)) hb); replace HB := q_ (below_step (bs_ HB.out GE581.out) hb); (try clear hb)) | ((with_reducible refine gate_callee (f := 45) rfl ?_); refine gl_ (some 33) Try.func45 #[.int .i64 a2, .string t587] rfl al_ ?_; (with_reducible refine (impl_rootBytes.calls k a2 t587 t588 _ A11.out).mono ?_); rintro e w18 ⟨v589, rfl, ho0, hb⟩; refine ⟨_, rfl, ?_⟩; replace HO584 := q_ (Kd.N_elder' (by (with_reducible repeat (first | apply Kd.N_alloc | apply Kd.N_drewN | apply Kd.N_drew)); exact HO584.out) (Kd.R_base ho0) hb); replace HL586_0 := q_ (Kd.V_elder' (by (with_reducible repeat (first | apply Kd.V_alloc | apply Kd.V_drewN | apply Kd.V_drew)); exact HL586_0.out) (Kd.R_base ho0) hb); have HO590 := q_ (Kd.R_lower (Kd.R_newM (M := fun k_ => (w.heap.size ≤ k_)) ho0 (below_size (bs_ HB.out GE581.out)) (fun k_ h_ => h_)) (below_size (bs_ HB.out GE581.out))); replace BK581 := q_ (bb_ BK581.out hb); replace HR586_0 := q_ (Kd.C_below (by repeat (first | (with_reducible exact HR586_0.out) | (with_reducible refine Kd.C_alloc ?_ _) | (with_reducible refine Kd.C_drewN ?_ _) | (with_reducible refine Kd.C_drew ?_) | exact HR586_0.out)) hb); replace HB := q_ (below_step (bs_ HB.out GE581.out) hb); (try clear hb); (try clear ho0); obtain ⟨Ao20, co20, eo20⟩ := Kd.R_slice HO590.out; subst eo20) | ((with_reducible refine gate_builtin (b := .append) (xs := #[.tmp 30, .tmp 34]) rfl ?_); at_builtin; refine Kd.N_append (Kd.slice 5 (Kd.int .u8)) (w0 := w) w.heap.size rfl (.tmp 30) (.tmp 34) 68 22 (.slice none 0 0) 24 rfl Try.underlying68 info22 rfl (by decide) (by omega) (.slice (some ad586) t582.length co16) t582 t588 [.slice Ao20 t588.length co20] (fun k_ => (w.heap.size ≤ k_) ∧ k_ ≠ gb581) (fun k_ => ((fun k_ => (w.heap.size ≤ k_) ∧ k_ ≠ gb581)) k_ ∧ some k_ ≠ (.slice (some ad586) t582.length co16 : Value).ownBlock) rfl rfl ?aP (fun _ hk => hk) ?aF ?aO ?aB ?aS ?aL ?_; (case aP => exact (Kd.FK_slice_mk (Kd.R_reads' (Kd.R_mono (ok' := (fun k_ => ((fun k_ => (w.heap.size ≤ k_) ∧ k_ ≠ gb581)) k_ ∧ some k_ ≠ (.slice (some ad586) t582.length co16 : Value).ownBlock)) (Kd.R_types (Kd.R_apart' (HO590.out) (Kd.N_typed HO584.out) (by decide)) BK581.out (by decide)) (fun k_ hk => ⟨⟨hk.1.1.1, hk.2⟩, hk.1.2⟩))).2.1 (Kd.R_F (Kd.R_mono (ok' := (fun k_ => ((fun k_ => (w.heap.size ≤ k_) ∧ k_ ≠ gb581)) k_ ∧ some k_ ≠ (.slice (some ad586) t582.length co16 : Value).ownBlock)) (Kd.R_types (Kd.R_apart' (HO590.out) (Kd.N_typed HO584.out) (by decide)) BK581.out (by decide)) (fun k_ hk => ⟨⟨hk.1.1.1, hk.2⟩, hk.1.2⟩))))); (case aB => exact (bs_ HB.out GE581.out)); (case aF => exact (fun k_ hk => ⟨(Nat.le_trans (below_size (bs_ HB.out GE581.out)) hk), Kd.freshB (g := gb581) (o := .cells #[.string a0_0, .string a0_1] 26 (0, 0)) (bk_ BK581.out) k_ hk⟩)); (case aO => exact (by (with_reducible repeat (first | apply Kd.N_alloc | apply Kd.N_drewN | apply Kd.N_drew)); exact Kd.N_mono HO584.out (fun _ hk => ⟨hk.1.1, hk.1.2⟩))); (case aS => exact (below_size (bs_ HB.out GE581.out))); (case aL => have := LMc12.out; omega); intro v592 w19 ho hb hg hat; rw [← Ny591.out] at ho; have n0_ := q_ (blk_grown (g := gb581) (o := .cells #[.string a0_0, .string a0_1] 26 (0, 0)) (bk_ BK581.out) hg (Kd.N_ne HO584.out BK581.out (by decide))); have n1_ := q_ (Kd.V_afterv (ok := (fun k_ => (w.heap.size ≤ k_) ∧ some k_ ≠ (.slice Ao20 t588.length co20 : Value).ownBlock ∧ k_ ≠ gb581)) (by (with_reducible repeat (first | apply Kd.V_alloc | apply Kd.V_drewN | apply Kd.V_drew)); exact Kd.V_mono HL586_0.out (fun _ hk => ⟨⟨hk.1.1.1, ⟨hk.2, hk.1.1.2⟩⟩, hk.1.2⟩)) hg hat); have n2_ := q_ (hb); have n3_ := q_ (ho); clear BK581; clear HL586_0; clear HB; clear HO584; clear HO590; have BK581 := n0_; have HL586_0 := n1_; have HB := n2_; have HO593 := n3_; clear n0_ n1_ n2_ n3_; clear ho hb hg hat))
    go_ret2
    exact ⟨_, by first | rfl | (simp [errW_none, errW_some] <;> rfl) | (simp only [← hji7]; first | rfl | (simp [errW_none, errW_some] <;> rfl)) | (simp [*, errW_none, errW_some] <;> rfl), by (with_reducible repeat (first | apply Kd.N_alloc | apply Kd.N_drewN | apply Kd.N_drew)); exact Kd.N_mono HO593.out (fun _ hk => hk.1), bs_ HB.out GE581.out⟩
  · replace c6 := Bool.eq_false_iff.mpr c6
    subst c6
    rw [if_neg (show ¬ (false = true) by decide)] at H
    simp only [Option.some.injEq, Prod.mk.injEq] at H
    obtain ⟨rfl, rfl⟩ := H
    go_enter Try.func42, Try.ntmps42
    go_wp2_with (first | ((with_reducible refine gate_dst (N := 4) rfl ?_); refine box_event rfl (N := 4) rfl (cs := #[.string a0_0, .string a0_1]) (t := 26) hr_ ?_; intro gb581 hg w21 hbox hb; have BK581 := q_ (hbox); have GW581 := q_ ((by rw [hg]; exact (below_size (be_ HB.out)) : w.heap.size ≤ gb581)); have GE581 := q_ ((by rw [hg]; exact (below_size (be_ HB.out)) : w.heap.size ≤ gb581)); replace HB := q_ (below_step (be_ HB.out) hb); clear hb hbox hg; obtain ⟨hcz22_0, hcz22_1, hfz22_0, hfz22_1⟩ := bx2_ BK581.out) | ((with_reducible refine gate_callee (f := 85) rfl ?_); refine gl_ (some 18) Try.func85 #[.agg #[.string a0_0, .string a0_1], .int .i64 a1, .int .i64 a2, .slice A3 l3.length c3] rfl al_ ?_; (with_reducible refine (impl_climb.calls k a0_0 a0_1 a1 a2 _ _ l3 t582 false _ ?side1 ?side2 A5.out).mono ?_); (case side1 => exact kc_ (Kd.C_below HR3.out HB.out)); (case side2 => exact HC3.out); rintro e w23 ⟨v583, rfl, ho0, hb⟩; refine ⟨_, rfl, ?_⟩; have HO584 := q_ (Kd.N_lower (Kd.N_mono (ok' := fun k_ => (w.heap.size ≤ k_) ∧ k_ ≠ gb581) ho0 (fun k_ hk_ => ⟨(Nat.le_trans (below_size (bs_ HB.out GE581.out)) hk_), (Kd.freshB (g := gb581) (o := .cells #[.string a0_0, .string a0_1] 26 (0, 0)) (bk_ BK581.out) k_ hk_)⟩)) (below_size (bs_ HB.out GE581.out))); replace BK581 := q_ (bb_ BK581.out hb); replace HB := q_ (below_step (bs_ HB.out GE581.out) hb); (try clear hb); (try clear ho0)))
    go_ret2
    exact ⟨_, rf_, by first | exact Kd.S_nil _ _ _ _ _ | exact Kd.N_nil _ _ _ _ _ | exact Kd.V_nil _ _ _ _ _ | exact Kd.Q_nil _ _ _ _ _ | exact Kd.R_nil _ _ _ _ _, bs_ HB.out GE581.out⟩

/-! ###  impl_LeafOf: function 88 -/
def impl_LeafOf.f (k : Nat) (a0_0 : ByteArray) (a0_1 : ByteArray) : Option (ByteArray) := (impl_leafBytes.f k a0_0 a0_1).bind fun t595 => ((impl_Digest.f k t595).bind fun t598 => (some t598))
set_option maxHeartbeats 8000000 in
set_option maxRecDepth 100000 in
theorem impl_LeafOf.calls (k : Nat) (a0_0 : ByteArray) (a0_1 : ByteArray) (r : ByteArray) (w : World) (h : impl_LeafOf.f k a0_0 a0_1 = some r) :
  Calls Try.prog 88 #[.agg #[.string a0_0, .string a0_1]] w fun e w' => e = .returned (.string r) ∧ Below w.heap.size w w' := by
  have hu26 := Try.underlying26
  have HB := q_ (Below.refl w.heap.size w)
  have H := h
  clear h
  unfold impl_LeafOf.f at H
  obtain ⟨t595, A2, H⟩ := bo_ H
  obtain ⟨t598, A3, H⟩ := bo_ H
  obtain rfl := Option.some.inj H
  go_enter Try.func88, Try.ntmps88
  go_wp2_with (first | ((with_reducible refine gate_dst (N := 1) rfl ?_); refine box_event rfl (N := 1) rfl (cs := #[.string a0_0, .string a0_1]) (t := 26) hr_ ?_; intro gb594 hg w4 hbox hb; have BK594 := q_ (hbox); have GW594 := q_ ((by rw [hg]; exact (below_size (be_ HB.out)) : w.heap.size ≤ gb594)); have GE594 := q_ ((by rw [hg]; exact (below_size (be_ HB.out)) : w.heap.size ≤ gb594)); replace HB := q_ (below_step (be_ HB.out) hb); clear hb hbox hg; obtain ⟨hcz5_0, hcz5_1, hfz5_0, hfz5_1⟩ := bx2_ BK594.out) | ((with_reducible refine gate_callee (f := 107) rfl ?_); refine gl_ (some 4) Try.func107 #[.agg #[.string a0_0, .string a0_1]] rfl al_ ?_; (with_reducible refine (impl_leafBytes.calls k a0_0 a0_1 t595 _ A2.out).mono ?_); rintro e w6 ⟨v596, rfl, ho0, hb⟩; refine ⟨_, rfl, ?_⟩; have HO597 := q_ (Kd.R_lower ho0 (below_size (bs_ HB.out GE594.out))); replace BK594 := q_ (bb_ BK594.out hb); replace HB := q_ (below_step (bs_ HB.out GE594.out) hb); (try clear hb); (try clear ho0); obtain ⟨Ao7, co7, eo7⟩ := Kd.R_slice HO597.out; subst eo7) | ((with_reducible refine gate_callee (f := 53) rfl ?_); refine gl_ (some 5) Try.func53 #[.slice Ao7 t595.length co7] rfl al_ ?_; (with_reducible refine (impl_Digest.calls k _ _ t595 t598 _ ?side1 ?side2 A3.out).mono ?_); (case side1 => exact kc_ (Kd.R_reads' HO597.out).2.2); (case side2 => exact (Kd.R_reads' HO597.out).2.1); rintro e w8 ⟨rfl, hb⟩; refine ⟨_, rfl, ?_⟩; replace HO597 := q_ (Kd.R_below (kr_ HO597.out) hb); replace BK594 := q_ (bb_ BK594.out hb); replace HB := q_ (below_step (bs_ HB.out GE594.out) hb); (try clear hb)))
  go_ret
  exact ⟨rf_, bs_ HB.out GE594.out⟩

/-! ###  impl_NodeOf: function 89 -/
def impl_NodeOf.f (k : Nat) (a0 : ByteArray) (a1 : ByteArray) : Option (ByteArray) := (impl_nodeBytes.f a0 a1).bind fun t599 => ((impl_Digest.f k t599).bind fun t602 => (some t602))
set_option maxHeartbeats 8000000 in
set_option maxRecDepth 100000 in
theorem impl_NodeOf.calls (k : Nat) (a0 : ByteArray) (a1 : ByteArray) (r : ByteArray) (w : World) (h : impl_NodeOf.f k a0 a1 = some r) :
  Calls Try.prog 89 #[.string a0, .string a1] w fun e w' => e = .returned (.string r) ∧ Below w.heap.size w w' := by
  have HB := q_ (Below.refl w.heap.size w)
  have H := h
  clear h
  unfold impl_NodeOf.f at H
  obtain ⟨t599, A3, H⟩ := bo_ H
  obtain ⟨t602, A4, H⟩ := bo_ H
  obtain rfl := Option.some.inj H
  go_enter Try.func89, Try.ntmps89
  go_wp2_with (first | ((with_reducible refine gate_callee (f := 108) rfl ?_); refine gl_ (some 7) Try.func108 #[.string a0, .string a1] rfl al_ ?_; (with_reducible refine (impl_nodeBytes.calls a0 a1 t599 _ A3.out).mono ?_); rintro e w5 ⟨v600, rfl, ho0, hb⟩; refine ⟨_, rfl, ?_⟩; have HO601 := q_ (Kd.R_lower ho0 (below_size (be_ HB.out))); replace HB := q_ (below_step (be_ HB.out) hb); (try clear hb); (try clear ho0); obtain ⟨Ao6, co6, eo6⟩ := Kd.R_slice HO601.out; subst eo6) | ((with_reducible refine gate_callee (f := 53) rfl ?_); refine gl_ (some 8) Try.func53 #[.slice Ao6 t599.length co6] rfl al_ ?_; (with_reducible refine (impl_Digest.calls k _ _ t599 t602 _ ?side1 ?side2 A4.out).mono ?_); (case side1 => exact kc_ (Kd.R_reads' HO601.out).2.2); (case side2 => exact (Kd.R_reads' HO601.out).2.1); rintro e w7 ⟨rfl, hb⟩; refine ⟨_, rfl, ?_⟩; replace HO601 := q_ (Kd.R_below (kr_ HO601.out) hb); replace HB := q_ (below_step (be_ HB.out) hb); (try clear hb)))
  go_ret
  exact ⟨rf_, be_ HB.out⟩

/-! ###  impl_innerOf: function 46 -/
def impl_innerOf.f : Nat → List (S26) → Option (ByteArray)
  | 0, _ => none
  | k + 1, l0 => if (l0.length : Int) = 0 then ((impl_Digest.f k ([] : List Int)).bind fun t603 => (some t603)) else (if (l0.length : Int) = 1 then (if 0 < (l0.length : Int) then ((impl_LeafOf.f k ((rd_T26 l0 0).f0) ((rd_T26 l0 0).f1)).bind fun t605 => (some t605)) else (none)) else ((impl_half.f k (l0.length : Int)).bind fun t606 => (if 0 ≤ t606 then (if t606 ≤ (l0.length : Int) then ((impl_innerOf.f k (l0.take (t606 : Int).toNat)).bind fun t611 => ((impl_innerOf.f k (l0.drop (t606 : Int).toNat)).bind fun t616 => ((impl_NodeOf.f k t611 t616).bind fun t617 => (some t617)))) else (none)) else (none))))
def impl_innerOf.T7 : Bool × List (List Nat × List Nat) := (true, [([], []), ([], []), ([0, 1], [0, 1]), ([2], [2]), ([], []), ([], []), ([4, 5], [4, 5]), ([6, 3], [6]), ([3, 7, 7], [3, 7]), ([8, 8, 0, 1, 2, 3, 4, 5, 6, 7, 8], [8])])
def impl_innerOf.B7 : List Nat := [0, 0, 3, 7, 0, 0, 48, 127, 255, 511]
theorem impl_innerOf.tab7 : rtab .any (opsOf Try.f46 7) = impl_innerOf.T7 := by kernel_rfl
theorem impl_innerOf.bits7 : waitsOk impl_innerOf.T7.2 impl_innerOf.B7 = true := by kernel_rfl
set_option maxHeartbeats 8000000 in
set_option maxRecDepth 100000 in
theorem impl_innerOf.calls (k : Nat) : ∀ (A0 : Option Addr) (c0 : Nat) (l0 : List (S26)) (r : ByteArray) (w : World) (hr0 : Kd.C k26 w A0 l0.length l0) (hc0 : l0.length ≤ c0) (h : impl_innerOf.f k l0 = some r),
  Calls Try.prog 46 #[.slice A0 l0.length c0] w fun e w' => e = .returned (.string r) ∧ Below w.heap.size w w' := by
  induction k using Nat.strongRecOn with
  | _ k ih =>
  intro A0 c0 l0 r w hr0 hc0 h
  cases k with
  | zero => exact absurd h (by simp [impl_innerOf.f])
  | succ k =>
  simp only [impl_innerOf.f] at h
  have hu26 := Try.underlying26
  have HR0 := Aside0.mk hr0
  have HC0 := Aside0.mk hc0
  clear hr0 hc0
  have HB := q_ (Below.refl w.heap.size w)
  have H : (if (l0.length : Int) = 0 then ((impl_Digest.f k ([] : List Int)).bind fun t603 => (some t603)) else (if (l0.length : Int) = 1 then (if 0 < (l0.length : Int) then ((impl_LeafOf.f k ((rd_T26 l0 0).f0) ((rd_T26 l0 0).f1)).bind fun t605 => (some t605)) else (none)) else ((impl_half.f k (l0.length : Int)).bind fun t606 => (if 0 ≤ t606 then (if t606 ≤ (l0.length : Int) then ((impl_innerOf.f k (l0.take (t606 : Int).toNat)).bind fun t611 => ((impl_innerOf.f k (l0.drop (t606 : Int).toNat)).bind fun t616 => ((impl_NodeOf.f k t611 t616).bind fun t617 => (some t617)))) else (none)) else (none))))) = some r := h
  clear h
  by_cases c2 : (l0.length : Int) = 0
  · rw [if_pos c2] at H
    have c2b0 := beq_iff_eq.mpr c2
    have c2b1 := bne_eq_false_iff_eq.mpr c2
    clear c2
    obtain ⟨t603, A3, H⟩ := bo_ H
    obtain rfl := Option.some.inj H
    go_enter Try.func46, Try.ntmps46
    go_wp2_with (first | ((with_reducible refine gate_callee (f := 53) rfl ?_); refine gl_ (some 8) Try.func53 #[.slice none 0 0] rfl al_ ?_; (refine (impl_Digest.calls k _ _ ([] : List Int) t603 _ ?side1 ?side2 A3.out).mono ?_); (case side1 => exact Kd.C_nil _ _); (case side2 => exact Nat.le_refl _); rintro e w4 ⟨rfl, hb⟩; refine ⟨_, rfl, ?_⟩; replace HB := q_ (below_step (be_ HB.out) hb); (try clear hb)))
    go_ret
    exact ⟨rf_, be_ HB.out⟩
  · rw [if_neg c2] at H
    have c2b0 := beq_eq_false_iff_ne.mpr c2
    have c2b1 := bne_iff_ne.mpr c2
    have c2b2 : ¬ (l0 = []) := fun h_ => c2 (by rw [h_]; rfl)
    by_cases c5 : (l0.length : Int) = 1
    · rw [if_pos c5] at H
      have c5b0 := beq_iff_eq.mpr c5
      have c5b1 := bne_eq_false_iff_eq.mpr c5
      clear c5
      obtain ⟨c6, H⟩ := ip_ H
      have c6b0 : decide (0 < (l0.length : Int)) = true := decide_eq_true c6
      have c6b1 : decide (0 < l0.length) = true := decide_eq_true (by omega)
      clear c6
      obtain ⟨t605, A7, H⟩ := bo_ H
      obtain rfl := Option.some.inj H
      have p604 : 0 ≤ (0 : Int) := (by omega)
      have q604 : 0 < (l0.length : Int) := od_
      obtain ⟨ad604, e604, hx604_0, hx604_1⟩ := at_T26 HR0.out 0 p604 q604
      cases e604
      have qi604 : (0 < l0.length) = True := eq_true (by omega)
      (try rw [show ((0 : Int)).toNat = 0 from rfl] at hx604_0)
      (try rw [show 0 * 2 = 0 from rfl] at hx604_0)
      (try rw [Addr.add_zero'] at hx604_0)
      (try rw [show ((0 : Int)).toNat = 0 from rfl] at hx604_1)
      (try rw [show 0 * 2 = 0 from rfl] at hx604_1)
      (try rw [Addr.add_zero'] at hx604_1)
      replace p604 := eq_true p604
      replace q604 := eq_true q604
      go_enter Try.func46, Try.ntmps46
      go_wp2_with (first | ((with_reducible refine gate_callee (f := 88) rfl ?_); refine gl_ (some 14) Try.func88 #[.agg #[.string ((rd_T26 l0 0).f0), .string ((rd_T26 l0 0).f1)]] rfl al_ ?_; (with_reducible refine (impl_LeafOf.calls k ((rd_T26 l0 0).f0) ((rd_T26 l0 0).f1) t605 _ A7.out).mono ?_); rintro e w8 ⟨rfl, hb⟩; refine ⟨_, rfl, ?_⟩; replace HB := q_ (below_step (be_ HB.out) hb); (try clear hb)))
      go_ret
      exact ⟨rf_, be_ HB.out⟩
    · rw [if_neg c5] at H
      have c5b0 := beq_eq_false_iff_ne.mpr c5
      have c5b1 := bne_iff_ne.mpr c5
      obtain ⟨t606, A9, H⟩ := bo_ H
      obtain ⟨c10, H⟩ := ip_ H
      have c10b0 := eq_true c10
      have c10b1 : decide (0 ≤ t606) = true := decide_eq_true c10
      clear c10
      obtain ⟨c11, H⟩ := ip_ H
      have c11b0 := eq_true c11
      have c11b1 : decide (t606 ≤ (l0.length : Int)) = true := decide_eq_true c11
      clear c11
      obtain ⟨y607, hy607⟩ : ∃ y_ : List (S26), y_ = (l0.take (t606 : Int).toNat) := ⟨_, rfl⟩
      replace H : ((impl_innerOf.f k y607).bind fun t611 => ((impl_innerOf.f k (l0.drop (t606 : Int).toNat)).bind fun t616 => ((impl_NodeOf.f k t611 t616).bind fun t617 => (some t617)))) = some r := ry_ hy607 H
      have Ny607 := Aside0.mk hy607
      clear hy607
      obtain ⟨t611, A12, H⟩ := bo_ H
      have c13b0 := eq_true (od_ : 0 ≤ t606)
      have c14b0 := eq_true (od_ : t606 ≤ (l0.length : Int))
      obtain ⟨y612, hy612⟩ : ∃ y_ : List (S26), y_ = (l0.drop (t606 : Int).toNat) := ⟨_, rfl⟩
      replace H : ((impl_innerOf.f k y612).bind fun t616 => ((impl_NodeOf.f k t611 t616).bind fun t617 => (some t617))) = some r := ry_ hy612 H
      have Ny612 := Aside0.mk hy612
      clear hy612
      obtain ⟨t616, A15, H⟩ := bo_ H
      obtain ⟨t617, A16, H⟩ := bo_ H
      obtain rfl := Option.some.inj H
      go_enter Try.func46, Try.ntmps46
      try go_wp2_with (first | ((with_reducible refine gate_callee (f := 86) rfl ?_); refine gl_ (some 17) Try.func86 #[.int .i64 (l0.length : Int)] rfl al_ ?_; (with_reducible refine (impl_half.calls k (l0.length : Int) t606 _ A9.out).mono ?_); rintro e w' ⟨rfl, ⟨nd, rfl⟩⟩; refine ⟨_, rfl, ?_⟩))
      replace HB := q_ (below_drew1 (pw_below_drewN HB.out nd))
      have q18 : (t606 : Int) ≤ ((l0.length : Int) : Int) := od_
      obtain ⟨i018, hi018, _, hsz18, _⟩ := info_parts info26
      have hroom18 : l0.length ≤ c0 := HC0.out
      have hC18 : Kd.C k26 _ A0 l0.length l0 := HR0.out
      have hcut18 := cut_to (P := Try.prog) 24 26 .i64 Try.underlying24 hi018 A0 l0.length c0 t606 od_ q18 hroom18
      have hr18 := Kd.C_take (m := (t606 : Int).toNat) hC18 (by omega)
      have hy18 : y607.length = (t606 : Int).toNat := (by rw [Ny607.out, List.length_take]; omega)
      rw [← Ny607.out] at hr18
      rw [← hy18] at hcut18
      have HR610 := Aside0.mk hr18
      have HC610 := q_ (show y607.length ≤ c0 from by omega)
      clear hr18 hC18 hroom18 hi018 hsz18
      have KY18 := Aside0.mk hy18
      clear hy18
      replace q18 := eq_true q18
      have q19 : (t606 : Int) ≤ ((l0.length : Int) : Int) := od_
      obtain ⟨i019, hi019, _, hsz19, _⟩ := info_parts info26
      have hroom19 : l0.length ≤ c0 := HC0.out
      have hC19 : Kd.C k26 _ A0 l0.length l0 := HR0.out
      have q019 : (0 : Int) ≤ (t606 : Int) := od_
      have hcut19 := cut_from (P := Try.prog) 24 26 .i64 Try.underlying24 hi019 2 hsz19 A0 l0.length c0 t606 q019 q19
      have hr19 := Kd.C_drop (m := (t606 : Int).toNat) (c := c0) hC19 (by omega) hroom19
      obtain ⟨A19, hA19⟩ : ∃ A1, A1 = (if c0 = (t606 : Int).toNat then A0 else (A0 : Option Addr).map (·.add ((t606 : Int).toNat * 2))) := ⟨_, rfl⟩
      obtain ⟨c19, hc19⟩ : ∃ c1, c1 = c0 - (t606 : Int).toNat := ⟨_, rfl⟩
      have hy19 : y612.length = l0.length - (t606 : Int).toNat := (by rw [Ny612.out, List.length_drop] <;> omega)
      rw [show (l0).drop (t606 : Int).toNat = y612 from Ny612.out.symm] at hr19
      replace hr19 : Kd.C k26 _ A19 y612.length y612 := (by rw [hA19]; exact hr19)
      rw [← hy19, ← hA19, ← hc19] at hcut19
      have HR615 := Aside0.mk hr19
      have HC615 := q_ (show y612.length ≤ c19 from by rw [hy19, hc19]; exact Nat.sub_le_sub_right hroom19 _)
      clear hr19 hC19 hroom19 hi019 hsz19 hc19
      have KY19 := Aside0.mk hy19
      have KA19 := Aside0.mk hA19
      clear hy19 hA19
      replace q19 := eq_true q19
      refine start_ (n := 10) (S := fun w' => True) (ds := []) (bq_ 0 10) (by kernel_rfl) rfl rfl trivial (fun hHeld => ?_); refine with_tabW impl_innerOf.tab7 impl_innerOf.bits7 (fun HT_ HW_ => ?_)
      generalize (World.drewN w nd).drew = w17 at HB HR610 HR615 hHeld ⊢
      refine p_ 0 18 HT_ ?_; refine p_ 1 19 HT_ ?_; refine p_ 2 20 HT_ ?_; refine p_ 4 22 HT_ ?_; refine p_ 5 23 HT_ ?_; refine p_ 6 24 HT_ ?_
      refine oc_ 3 21 (bq_ 7 3) HT_ Try.func46 #[.slice A0 y607.length c0] ?_
      with_reducible refine (ih k (by omega) _ _ y607 t611 _ ?side1 ?side2 A12.out).mono ?_
      (case side1 => exact kc_ (Kd.C_below HR610.out HB.out))
      (case side2 => exact HC610.out)
      rintro e w20 ⟨rfl, hb⟩
      refine ⟨_, rfl, ?_⟩
      replace HB := q_ (below_step (be_ HB.out) hb)
      (try clear hb)
      (try clear hb2)
      (try clear hk)
      (try clear hi)
      refine ⟨trivial, fun hHeld => nm_ ?_⟩
      refine oc_ 7 25 (bq_ 8 2) HT_ Try.func46 #[.slice A19 y612.length c19] ?_
      with_reducible refine (ih k (by omega) _ _ y612 t616 _ ?side1 ?side2 A15.out).mono ?_
      (case side1 => exact kc_ (Kd.C_below HR615.out HB.out))
      (case side2 => exact HC615.out)
      rintro e w21 ⟨rfl, hb⟩
      refine ⟨_, rfl, ?_⟩
      replace HB := q_ (below_step (be_ HB.out) hb)
      (try clear hb)
      (try clear hb2)
      (try clear hk)
      (try clear hi)
      refine ⟨trivial, fun hHeld => nm_ ?_⟩
      refine oc_ 8 26 (bq_ 9 1) HT_ Try.func89 #[.string t611, .string t616] ?_
      with_reducible refine (impl_NodeOf.calls k t611 t616 t617 _ A16.out).mono ?_
      rintro e w22 ⟨rfl, hb⟩
      refine ⟨_, rfl, ?_⟩
      replace HB := q_ (below_step (be_ HB.out) hb)
      (try clear hb)
      (try clear hb2)
      (try clear hk)
      (try clear hi)
      refine ⟨trivial, fun hHeld => nm_ ?_⟩
      refine p_ 9 2 HT_ ?_
      refine done_ (done_of HT_.out (by kernel_rfl)) ?_
      try go_wp2
      go_ret
      exact ⟨rf_, be_ HB.out⟩

end Go.Proofs.Ythkaifddpjjmaaa.P
