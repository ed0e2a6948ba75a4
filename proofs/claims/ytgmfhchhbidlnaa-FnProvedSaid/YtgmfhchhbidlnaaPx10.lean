import Derived.Test.YtgmfhchhbidlnaaDg5
import Derived.Test.YtgmfhchhbidlnaaPx0
import Derived.Test.YtgmfhchhbidlnaaStr
namespace Go.Proofs.Ytgmfhchhbidlnaa.P
open Go.RowKit Go.Proofs.YtgmfhchhbidlnaaW.PrintWords Go.Proofs.YtgmfhchhbidlnaaW.PrintLast Go.Proofs.YtgmfhchhbidlnaaW.PrintMore
attribute [local go_sem] max2_int min2_int max_two min_two max_three min_three max_four min_four
set_option linter.unusedVariables false
set_option maxHeartbeats 8000000
set_option maxRecDepth 100000
set_option linter.unusedSimpArgs false
def impl_Digest.f (k : Nat) (l0 : List Int) : Option (ByteArray) := dg_Digest.f k l0
theorem impl_Digest.calls (k : Nat) (A0 : Option Addr) (c0 : Nat) (l0 : List Int) (r : ByteArray) (w : World) (aA : Kd.C (Kd.int .u8) w A0 l0.length l0) (aB : l0.length ≤ c0) (h : impl_Digest.f k l0 = some r) :
 Calls Try.prog 45 #[.slice A0 l0.length c0] w fun e w' => e = .returned (.string r) ∧ Below w.heap.size w w' := dg_Digest.calls k A0 c0 l0 r w aA aB h
section
def impl_putNum.l0 : Nat → List Int → Int → Option (List Int)
 | 0, _, _ => none
 | k + 1, x0, x1 => if x1 > 127 then (if x0.length < 140737488355328 then (impl_putNum.l0 k (x0 ++ [(Go.bits .or .i64 128 (Go.bits .and .i64 x1 127)) % 256]) (x1 / 128)) else (none)) else (if x0.length < 140737488355328 then (some (x0 ++ [(x1) % 256])) else (none))
def impl_putNum.f (k : Nat) (l0 : List Int) (a1 : Int) : Option (List Int) := impl_putNum.l0 k l0 (mx 0 (mn a1 1000000000))
theorem impl_putNum.calls (k : Nat) (aE : Nat → Prop) (aD : Value) (l0 : List Int) (a1 : Int) (r : List Int) (w0 w : World) (hB : Below w0.heap.size w0 w) (bK : Kd.R (Kd.int .u8) 5 w w0.heap.size aE aD l0) (h : impl_putNum.f k l0 a1 = some r) :
 Calls Try.prog 56 #[aD, .int .i64 a1] w fun e w' => ∃ v0_ : Value, e = .returned (v0_) ∧ Kd.R (Kd.int .u8) 5 w' w0.heap.size (fun k_ => (aE k_ ∨ w.heap.size ≤ k_)) v0_ r ∧ Below w0.heap.size w0 w' ∧ Kept w w' (fun k_ => aE k_) := by
 have bL := q_ (show Kd.R (Kd.int .u8) 5 w w0.heap.size (fun k_ => (aE k_ ∨ w.heap.size ≤ k_)) aD l0 from Kd.R_mono bK (fun k_ hk => (.inl hk)))
 have HK := q_ (Kept.refl w (fun k_ => aE k_))
 have bM := Aside0.mk hB.size
 have HB := Aside0.mk hB
 clear hB
 have H := h
 clear h
 unfold impl_putNum.f at H
 obtain ⟨aM, aK⟩ : ∃ j_ : Int, (mn a1 1000000000) = j_ := ⟨_, rfl⟩
 first | rw [aK] at H | simp only [aK] at H
 (try (have bD : aM ≤ 1000000000 := by (rw [← aK]; unfold mn; (repeat' split) <;> omega)))
 (try (have bE : aM ≤ 64 := by omega))
 have bF : (if 1000000000 < a1 then 1000000000 else a1) = aM := aK
 obtain ⟨bB, aJ⟩ : ∃ j_ : Int, (mx 0 (aM)) = j_ := ⟨_, rfl⟩
 first | rw [aJ] at H | simp only [aJ] at H
 have bC : (if 0 < (aM) then (aM) else 0) = bB := aJ
 have H' := Aside0.mk H
 clear H
 go_enter Try.func56, Try.ntmps56
 go_wp2
 go_loopg [0, 1] k (fun kq v0 v1 w' => ∃ (aC : List Int) (aA : Int), v1 = .int .i64 aA ∧ Aside0 (impl_putNum.l0 kq aC aA = some r) ∧ Aside0 (kq ≤ k) ∧ Aside0 (Kd.R (Kd.int .u8) 5 w' w0.heap.size (fun k_ => (aE k_ ∨ w.heap.size ≤ k_)) v0 aC) ∧ Aside0 (Kept w w' (fun k_ => aE k_)) ∧ Aside0 (Below w0.heap.size w0 w'))
 case atStart => exact ⟨(l0), (bB), (by first | rfl | (simp; done) | (simp only [← aJ] <;> (first | rfl | simp)) | (simp [*]; done)), H', ⟨Nat.le_refl _⟩, ⟨kr_ bL.out⟩, ⟨by repeat (first | (with_reducible first | exact HK.out | apply Kept.alloc | apply Kept.drewN | apply Kept.drew) | exact HK.out)⟩, ⟨be_ HB.out⟩⟩
 case round =>
  clear H'
  obtain ⟨aC, aA, rfl, HA, bG, aG, HK, HB⟩ := hrel
  cases gk with
  | zero => exact absurd HA.out (by simp [impl_putNum.l0])
  | succ k1 =>
   have H := HA.out
   clear HA
   simp only [impl_putNum.l0] at H
   by_cases c5 : aA > 127
   ·
    rw [if_pos c5] at H
    have aY : decide (127 < aA) = true := decide_eq_true c5
    clear c5
    obtain ⟨bA, H⟩ := ia_ H
    obtain ⟨aX, aI⟩ : ∃ y_ : List Int, y_ = (aC ++ [(Go.bits .or .i64 128 (Go.bits .and .i64 aA 127)) % 256]) := ⟨_, rfl⟩
    rw [← aI] at H
    have aU := Aside0.mk aI
    clear aI
    have H' := Aside0.mk H
    clear H
    go_wp2_with (first | ((with_reducible refine gate_builtin (b := .append) (xs := #[.tmp 10, .tmp 15]) rfl ?_); at_builtin; refine Kd.R_append (Kd.int .u8) (w0 := w0) w0.heap.size rfl (.tmp 10) (.tmp 15) 22 5 (.int .u8 0) 1 rfl Try.underlying22 info5 rfl (by decide) (by omega) u0 aC ((Go.bits .or .i64 128 (Go.bits .and .i64 aA 127)) % 256) [.int .u8 ((Go.bits .or .i64 128 (Go.bits .and .i64 aA 127)) % 256)] (fun k_ => (aE k_ ∨ w.heap.size ≤ k_)) (fun _ => False) rfl rfl ?aP (fun _ hk => hk.elim) ?aF ?aO ?aB ?aS ?aL ?_; (case aP => exact rfl); (case aB => exact (be_ HB.out)); (case aF => exact (fun k_ hk => (.inr (Nat.le_trans (by first | exact HK.out.1 | exact (show Kept w _ (fun k_ => aE k_) from by repeat (first | (with_reducible first | exact HK.out | apply Kept.alloc | apply Kept.drewN | apply Kept.drew) | exact HK.out)).1) hk)))); (case aO => exact (kr_ aG.out)); (case aS => exact (below_size (be_ HB.out))); (case aL => have := bA.out; omega); intro bJ w7 ho hb hg hat; rw [← aU.out] at ho; have aR := q_ (hb); have aQ := q_ (Kept.of_grown (S := (fun k_ => aE k_)) hg (by repeat (first | (with_reducible first | exact HK.out | apply Kept.alloc | apply Kept.drewN | apply Kept.drew) | exact HK.out)) (fun k_ e_ => (aG.out.1 k_ e_))); have aN := q_ (ho); clear HB; clear HK; clear aG; have HB := aR; have HK := aQ; have aW := aN; clear aR aQ aN; clear ho hb hg hat))
    go_roundg k1
    case measure => have := bG.out; omega
    case rel => exact ⟨(aX), (aA / 128), rs_, H', ⟨by have := bG.out; omega⟩, ⟨kr_ aW.out⟩, ⟨by repeat (first | (with_reducible first | exact HK.out | apply Kept.alloc | apply Kept.drewN | apply Kept.drew) | exact HK.out)⟩, ⟨be_ HB.out⟩⟩
   ·
    rw [if_neg c5] at H
    have aY : decide (127 < aA) = false := decide_eq_false c5
    clear c5
    obtain ⟨aZ, H⟩ := ia_ H
    obtain ⟨bH, aH⟩ : ∃ y_ : List Int, y_ = (aC ++ [(aA) % 256]) := ⟨_, rfl⟩
    rw [← aH] at H
    have aT := Aside0.mk aH
    clear aH
    obtain rfl := Option.some.inj H
    go_wp2_with (first | ((with_reducible refine gate_builtin (b := .append) (xs := #[.tmp 19, .tmp 22]) rfl ?_); at_builtin; refine Kd.R_append (Kd.int .u8) (w0 := w0) w0.heap.size rfl (.tmp 19) (.tmp 22) 22 5 (.int .u8 0) 1 rfl Try.underlying22 info5 rfl (by decide) (by omega) u0 aC ((aA) % 256) [.int .u8 ((aA) % 256)] (fun k_ => (aE k_ ∨ w.heap.size ≤ k_)) (fun _ => False) rfl rfl ?aP (fun _ hk => hk.elim) ?aF ?aO ?aB ?aS ?aL ?_; (case aP => exact rfl); (case aB => exact (be_ HB.out)); (case aF => exact (fun k_ hk => (.inr (Nat.le_trans (by first | exact HK.out.1 | exact (show Kept w _ (fun k_ => aE k_) from by repeat (first | (with_reducible first | exact HK.out | apply Kept.alloc | apply Kept.drewN | apply Kept.drew) | exact HK.out)).1) hk)))); (case aO => exact (kr_ aG.out)); (case aS => exact (below_size (be_ HB.out))); (case aL => have := aZ.out; omega); intro bI w9 ho hb hg hat; rw [← aT.out] at ho; have aR := q_ (hb); have aQ := q_ (Kept.of_grown (S := (fun k_ => aE k_)) hg (by repeat (first | (with_reducible first | exact HK.out | apply Kept.alloc | apply Kept.drewN | apply Kept.drew) | exact HK.out)) (fun k_ e_ => (aG.out.1 k_ e_))); have aN := q_ (ho); clear HB; clear HK; clear aG; have HB := aR; have HK := aQ; have aV := aN; clear aR aQ aN; clear ho hb hg hat))
    go_ret
    exact ⟨_, by first | rfl | (simp [errW_none, errW_some] <;> rfl) | (simp only [← aK, ← aJ]; first | rfl | (simp [errW_none, errW_some] <;> rfl)) | (simp [*, errW_none, errW_some] <;> rfl), kr_ aV.out, be_ HB.out, by repeat (first | (with_reducible first | exact HK.out | apply Kept.alloc | apply Kept.drewN | apply Kept.drew) | exact HK.out)⟩
def impl_rootBytes.f (k : Nat) (a0 : Int) (a1 : ByteArray) : Option (List Int) := (impl_putNum.f k (([2] : List Int)) a0).bind fun aA => (if aA.length + a1.size < 140737488355328 then (some (aA ++ bytesOf a1)) else (none))
theorem impl_rootBytes.calls (k : Nat) (a0 : Int) (a1 : ByteArray) (r : List Int) (w : World) (h : impl_rootBytes.f k a0 a1 = some r) :
 Calls Try.prog 46 #[.int .i64 a0, .string a1] w fun e w' => ∃ v0_ : Value, e = .returned (v0_) ∧ Kd.R (Kd.int .u8) 5 w' w.heap.size (fun _ => True) v0_ r ∧ Below w.heap.size w w' := by
 have HB := q_ (Below.refl w.heap.size w)
 have H := h
 clear h
 unfold impl_rootBytes.f at H
 obtain ⟨aE, aC⟩ : ∃ y_ : List Int, y_ = (([2] : List Int)) := ⟨_, rfl⟩
 rw [← aC] at H
 have aG := Aside0.mk aC
 clear aC
 obtain ⟨aI, A3, H⟩ := bo_ H
 obtain ⟨aT, H⟩ := ia_ H
 obtain ⟨aW, aA⟩ : ∃ y_ : List Int, y_ = (aI ++ bytesOf a1) := ⟨_, rfl⟩
 rw [← aA] at H
 have aN := Aside0.mk aA
 clear aA
 obtain rfl := Option.some.inj H
 go_enter Try.func46, Try.ntmps46
 go_wp2_with (first | ((with_reducible refine gate_dst (N := 5) rfl ?_); refine Kd.R_lit (Kd.int .u8) _ 5 ?hg (N := 5) ?hd (xs := ([2] : List Int)) (inner := [.int .u8 2]) (ok := fun _ => True) (okp := fun _ => True) ?hr ?hp (fun _ hk => hk) trivial (Below.refl _ _) (Nat.le_refl _) (by simp) ?_; (case hd => rfl); (case hg => rfl); (case hr => first | (go_simp; done) | (go_simp; rfl)); (case hp => exact (Reps.one (show Kd.M (Kd.int .u8) _ _ _ 2 [.int .u8 2] from rfl) (Reps.none _ _))); intro aY w5 aM hb hg_ hnew_; clear hg_ hnew_; (first | rw [← aG.out] at aM | (simp only [Int.reduceToNat] at aM; rw [← aG.out] at aM)); have aD := q_ (Kd.R_lower aM (below_size (be_ HB.out))); replace HB := q_ (below_step (be_ HB.out) hb); clear hb aM; obtain ⟨aU, aR, aZ⟩ := Kd.R_slice aD.out; subst aZ) | ((with_reducible refine gate_callee (f := 56) rfl ?_); refine gl_ (some 7) Try.func56 #[.slice aU aE.length aR, .int .i64 a0] rfl al_ ?_; (with_reducible refine (impl_putNum.calls k (fun k_ => some k_ = (.slice aU aE.length aR : Value).ownBlock) (.slice aU aE.length aR) aE a0 aI w _ ?side1 ?side2 A3.out).mono ?_); (case side1 => repeat (first | (with_reducible first | exact HB.out | apply below_alloc | apply pw_below_drewN | apply below_drew1) | exact HB.out)); (case side2 => exact Kd.R_tight rfl aD.out); rintro e w8 ⟨aQ, rfl, aV, hb, hkp⟩; refine ⟨_, rfl, ?_⟩; have aK := q_ (Kd.R_mono (ok' := fun k_ => True) aV (fun k_ hk_ => trivial)); have aJ := q_ (hb); clear HB; clear aD; have aH := aK; have HB := aJ; clear aK aJ; (try clear hb); (try clear hkp); (try clear aV)) | ((with_reducible refine gate_builtin (b := .append) (xs := #[.tmp 7, _]) rfl ?_); at_builtin; refine Kd.R_append_str (w0 := w) w.heap.size rfl (.tmp 7) _ 22 9 5 rfl Try.underlying22 Try.underlying9 info5 aQ aI a1 (fun _ => True) rfl rfl ?aF ?aO ?aB ?aS ?aL ?_; (case aB => exact (be_ HB.out)); (case aF => exact (fun _ _ => trivial)); (case aO => exact (kr_ aH.out)); (case aS => exact (below_size (be_ HB.out))); (case aL => have := aT.out; omega); intro aX w9 ho hb hg hat; rw [← aN.out] at ho; have aK := q_ (hb); have aJ := q_ (ho); clear HB; clear aH; have HB := aK; have aP := aJ; clear aK aJ; clear ho hb hg hat))
 go_ret
 exact ⟨_, rf_, kr_ aP.out, be_ HB.out⟩
def impl_half.l0 : Nat → Int → Int → Option (Int)
 | 0, _, _ => none
 | k + 1, x0, x3 => if (wrap64 (2 * x3)) < x0 then (impl_half.l0 k x0 (wrap64 (x3 * 2))) else (some x3)
def impl_half.f (k : Nat) (a0 : Int) : Option (Int) := impl_half.l0 k a0 1
theorem impl_half.calls (k : Nat) (a0 : Int) (r : Int) (w : World) (h : impl_half.f k a0 = some r) :
 Calls Try.prog 50 #[.int .i64 a0] w fun e w' => e = .returned (.int .i64 r) ∧ Drawn0 w w' := by
 have H := h
 clear h
 unfold impl_half.f at H
 have H' := Aside0.mk H
 clear H
 go_enter Try.func50, Try.ntmps50
 go_wp2
 go_loopg [3] k (fun kq v3 w' => ∃ (aA : Int), v3 = .int .i64 aA ∧ Aside0 (impl_half.l0 kq a0 aA = some r) ∧ Aside0 (kq ≤ k) ∧ Drawn0 w w')
 case atStart => exact ⟨(1), rs_, H', ⟨Nat.le_refl _⟩, by repeat (first | exact Drawn0.refl _ | apply Drawn0.step)⟩
 case round =>
  clear H'
  obtain ⟨aA, rfl, HA, aC, ⟨m1, rfl⟩⟩ := hrel
  cases gk with
  | zero => exact absurd HA.out (by simp [impl_half.l0])
  | succ k1 =>
   have H := HA.out
   clear HA
   simp only [impl_half.l0] at H
   by_cases c2 : (wrap64 (2 * aA)) < a0
   ·
    rw [if_pos c2] at H
    have aB := decide_eq_true c2
    clear c2
    have H' := Aside0.mk H
    clear H
    go_wp2
    go_roundg k1
    case measure => have := aC.out; omega
    case rel => exact ⟨(wrap64 (aA * 2)), rs_, H', ⟨by have := aC.out; omega⟩, by repeat (first | exact Drawn0.refl _ | apply Drawn0.step)⟩
   ·
    rw [if_neg c2] at H
    have aB := decide_eq_false c2
    clear c2
    obtain rfl := Option.some.inj H
    go_wp2
    go_ret
    exact ⟨rs_, by repeat (first | exact Drawn0.refl _ | apply Drawn0.step)⟩
def impl_putText.f (k : Nat) (l0 : List Int) (a1 : ByteArray) : Option (List Int) := (impl_putNum.f k l0 (a1.size : Int)).bind fun aA => (if aA.length + a1.size < 140737488355328 then (some (aA ++ bytesOf a1)) else (none))
theorem impl_putText.calls (k : Nat) (aD : Nat → Prop) (aA : Value) (l0 : List Int) (a1 : ByteArray) (r : List Int) (w0 w : World) (hB : Below w0.heap.size w0 w) (aP : Kd.R (Kd.int .u8) 5 w w0.heap.size aD aA l0) (h : impl_putText.f k l0 a1 = some r) :
 Calls Try.prog 91 #[aA, .string a1] w fun e w' => ∃ v0_ : Value, e = .returned (v0_) ∧ Kd.R (Kd.int .u8) 5 w' w0.heap.size (fun k_ => (aD k_ ∨ w.heap.size ≤ k_)) v0_ r ∧ Below w0.heap.size w0 w' ∧ Kept w w' (fun k_ => aD k_) := by
 have aN := q_ (show Kd.R (Kd.int .u8) 5 w w0.heap.size (fun k_ => (aD k_ ∨ w.heap.size ≤ k_)) aA l0 from Kd.R_mono aP (fun k_ hk => (.inl hk)))
 have HK := q_ (Kept.refl w (fun k_ => aD k_))
 have aY := Aside0.mk hB.size
 have HB := Aside0.mk hB
 clear hB
 have H := h
 clear h
 unfold impl_putText.f at H
 obtain ⟨aG, A3, H⟩ := bo_ H
 obtain ⟨aT, H⟩ := ia_ H
 obtain ⟨aV, aC⟩ : ∃ y_ : List Int, y_ = (aG ++ bytesOf a1) := ⟨_, rfl⟩
 rw [← aC] at H
 have aK := Aside0.mk aC
 clear aC
 obtain rfl := Option.some.inj H
 obtain ⟨aU, aR, aX⟩ := Kd.R_slice aN.out
 subst aX
 go_enter Try.func91, Try.ntmps91
 go_wp2_with (first | ((with_reducible refine gate_callee (f := 56) rfl ?_); refine gl_ (some 8) Try.func56 #[.slice aU l0.length aR, .int .i64 (a1.size : Int)] rfl al_ ?_; (with_reducible refine (impl_putNum.calls k (fun k_ => some k_ = (.slice aU l0.length aR : Value).ownBlock) (.slice aU l0.length aR) l0 (a1.size : Int) aG w0 _ ?side1 ?side2 A3.out).mono ?_); (case side1 => repeat (first | (with_reducible first | exact HB.out | apply below_alloc | apply pw_below_drewN | apply below_drew1) | exact HB.out)); (case side2 => exact Kd.R_tight rfl aN.out); rintro e w6 ⟨aQ, rfl, aP, hb, hkp⟩; refine ⟨_, rfl, ?_⟩; have aJ := q_ (Kd.R_mono (ok' := fun k_ => (aD k_ ∨ w.heap.size ≤ k_)) aP (fun k_ hk_ => Or.elim hk_ (fun hs_ => (aN.out.1 k_ (hs_).symm)) (fun hn_ => (.inr (Nat.le_trans (by first | exact HK.out.1 | exact (show Kept w _ (fun k_ => aD k_) from by repeat (first | (with_reducible first | exact HK.out | apply Kept.alloc | apply Kept.drewN | apply Kept.drew) | exact HK.out)).1) hn_))))); have aI := q_ (Kept.then_ (S := (fun k_ => aD k_)) (by repeat (first | (with_reducible first | exact HK.out | apply Kept.alloc | apply Kept.drewN | apply Kept.drew) | exact HK.out)) hkp (fun k_ hs_ => (fun e_ => (aN.out.1 k_ e_.symm)) hs_)); have aH := q_ (hb); clear HK; clear HB; clear aN; have aE := aJ; have HK := aI; have HB := aH; clear aJ aI aH; (try clear hb); (try clear hkp); (try clear aP)) | ((with_reducible refine gate_builtin (b := .append) (xs := #[.tmp 8, _]) rfl ?_); at_builtin; refine Kd.R_append_str (w0 := w0) w0.heap.size rfl (.tmp 8) _ 22 9 5 rfl Try.underlying22 Try.underlying9 info5 aQ aG a1 (fun k_ => (aD k_ ∨ w.heap.size ≤ k_)) rfl rfl ?aF ?aO ?aB ?aS ?aL ?_; (case aB => exact (be_ HB.out)); (case aF => exact (fun k_ hk => (.inr (Nat.le_trans (by first | exact HK.out.1 | exact (show Kept w _ (fun k_ => aD k_) from by repeat (first | (with_reducible first | exact HK.out | apply Kept.alloc | apply Kept.drewN | apply Kept.drew) | exact HK.out)).1) hk)))); (case aO => exact (kr_ aE.out)); (case aS => exact (below_size (be_ HB.out))); (case aL => have := aT.out; omega); intro aW w7 ho hb hg hat; rw [← aK.out] at ho; have aJ := q_ (hb); have aI := q_ (Kept.of_grown (S := (fun k_ => aD k_)) hg (by repeat (first | (with_reducible first | exact HK.out | apply Kept.alloc | apply Kept.drewN | apply Kept.drew) | exact HK.out)) (fun k_ e_ => (aE.out.1 k_ e_))); have aH := q_ (ho); clear HB; clear HK; clear aE; have HB := aJ; have HK := aI; have aM := aH; clear aJ aI aH; clear ho hb hg hat))
 go_ret
 exact ⟨_, rf_, kr_ aM.out, be_ HB.out, by repeat (first | (with_reducible first | exact HK.out | apply Kept.alloc | apply Kept.drewN | apply Kept.drew) | exact HK.out)⟩
def impl_leafBytes.f (k : Nat) (aD : ByteArray) (aC : ByteArray) : Option (List Int) := (impl_putText.f k (([0] : List Int)) aD).bind fun aB => ((impl_putText.f k aB aC).bind fun aA => (some aA))
def impl_leafBytes.T1 : Bool × List (List Nat × List Nat) := (true, [([], []), ([], []), ([1], [1]), ([0, 2], [0, 2]), ([], []), ([4], [4]), ([3, 5, 3], [3, 5]), ([6, 6, 0, 1, 2, 3, 4, 5, 6], [6])])
def impl_leafBytes.B1 : List Nat := [0, 0, 2, 7, 0, 16, 63, 127]
theorem impl_leafBytes.tab1 : rtab .any (opsOf Try.f83 1) = impl_leafBytes.T1 := by kernel_rfl
theorem impl_leafBytes.bits1 : waitsOk impl_leafBytes.T1.2 impl_leafBytes.B1 = true := by kernel_rfl
theorem impl_leafBytes.calls (k : Nat) (aF : ByteArray) (aE : ByteArray) (r : List Int) (w : World) (h : impl_leafBytes.f k aF aE = some r) :
 Calls Try.prog 83 #[.agg #[.string aF, .string aE]] w fun e w' => ∃ v0_ : Value, e = .returned (v0_) ∧ Kd.R (Kd.int .u8) 5 w' w.heap.size (fun _ => True) v0_ r ∧ Below w.heap.size w w' := by
 have bG := Try.underlying45
 have HB := q_ (Below.refl w.heap.size w)
 have H := h
 clear h
 unfold impl_leafBytes.f at H
 obtain ⟨aI, aH⟩ : ∃ y_ : List Int, y_ = (([0] : List Int)) := ⟨_, rfl⟩
 rw [← aH] at H
 have aK := Aside0.mk aH
 clear aH
 obtain ⟨aG, A2, H⟩ := bo_ H
 obtain ⟨aW, A3, H⟩ := bo_ H
 obtain rfl := Option.some.inj H
 go_enter Try.func83, Try.ntmps83
 try go_wp2_with (first | ((with_reducible refine gate_dst (N := 1) rfl ?_); refine box_event rfl (N := 1) rfl (cs := #[.string aF, .string aE]) (t := 45) hr_ ?_; intro aJ hg w4 hbox hb; have aA := q_ (hbox); have aB := ge_ hg (be_ HB.out); replace HB := q_ (below_step (be_ HB.out) hb); clear hb hbox hg))
 replace aA := q_ (blk_drew aA.out)
 replace HB := q_ (below_drew1 HB.out)
 refine sr_ (fun w' => w'.cell? ⟨aJ, 0, none⟩ = some (.string aF) ∧ w'.cell? ⟨aJ, 1, none⟩ = some (.string aE)) [] impl_leafBytes.tab1 impl_leafBytes.bits1 ⟨(blk_cell aA.out 0).trans rfl, (blk_cell aA.out 1).trans rfl⟩ (fun hD hT hW => ?_)
 generalize w4.drew = w5 at aA HB hD ⊢
 refine p_ 1 4 hT ?_; refine p_ 4 7 hT ?_; refine k_ 2 5 hT hW hD ?_; refine k_ 5 8 hT hW hD ?_
 refine on_ 0 (some 3) (br_ [3, 1, 2, 2]) hT (fun K hK => ?_)
 refine Kd.R_lit_step (Kd.int .u8) _ 5 ?hg (N := 3) ?hd (xs := ([0] : List Int)) (inner := [.int .u8 0]) (ok := fun _ => True) (okp := fun _ => True) ?hr ?hp (fun _ hk => hk) trivial (Below.refl _ _) (Nat.le_refl _) (by simp) ?_; (case hd => rfl); (case hg => rfl); (case hr => first | (go_simp; done) | (go_simp; rfl)); (case hp => exact (Reps.one (show Kd.M (Kd.int .u8) _ _ _ 0 [.int .u8 0] from rfl) (Reps.none _ _)))
 intro bF w6 aQ hb hg_ hnew_
 clear hg_ hnew_
 (first | rw [← aK.out] at aQ | (simp only [Int.reduceToNat] at aQ; rw [← aK.out] at aQ))
 have aD := q_ (Kd.R_lower aQ (below_size (bs_ HB.out aB.out)))
 replace aA := q_ (bb_ aA.out hb)
 replace HB := q_ (below_step (bs_ HB.out aB.out) hb)
 clear hb aQ
 obtain ⟨bB, bA, bC⟩ := Kd.R_slice aD.out
 (first | subst bC | (injection bC with aT aZ aS; have aY := aT.symm; have aX := aS.symm; clear aT aZ aS; subst aY; subst aX))
 refine hK.out _ _ ⟨(blk_cell aA.out 0).trans rfl, (blk_cell aA.out 1).trans rfl⟩ (fun hD => ?_)
 clear hK K
 refine nm_ ?_
 refine oc_ 3 6 (bq_ 6 2) hT Try.func91 #[.slice bB aI.length bA, .string aF] ?_
 with_reducible refine (impl_putText.calls k (fun k_ => some k_ = (.slice bB aI.length bA : Value).ownBlock) (.slice bB aI.length bA) aI aF aG w _ ?side1 ?side2 A2.out).mono ?_
 (case side1 => repeat (first | (with_reducible first | exact HB.out | apply below_alloc | apply pw_below_drewN | apply below_drew1 | refine below_set ?_ aB.out) | exact HB.out))
 (case side2 => exact Kd.R_tight rfl aD.out)
 rintro e w9 ⟨bE, rfl, aR, hb, hkp⟩
 refine ⟨_, rfl, ?_⟩
 have aP := q_ (blk_kept (bk_ aA.out) hkp (fun hs_ => (fun e_ => (Kd.R_ne aD.out aA.out (by decide)) e_) hs_))
 have aO := q_ (Kd.R_mono (ok' := fun k_ => True) aR (fun k_ hk_ => trivial))
 have aN := q_ (hb)
 clear aA
 clear HB
 clear aD
 have aA := aP
 have aC := aO
 have HB := aN
 clear aP aO aN
 (try clear hb)
 (try clear hkp)
 (try clear aR)
 obtain ⟨aM, aL, aU⟩ := Kd.R_slice aC.out
 (first | subst aU | (injection aU with aT aZ aS; have aY := aT.symm; have aX := aS.symm; clear aT aZ aS; subst aY; subst aX))
 refine ⟨⟨(blk_cell aA.out 0).trans rfl, (blk_cell aA.out 1).trans rfl⟩, fun hD => nm_ ?_⟩
 refine oc_ 6 9 (bq_ 7 1) hT Try.func91 #[.slice aM aG.length aL, .string aE] ?_
 with_reducible refine (impl_putText.calls k (fun k_ => some k_ = (.slice aM aG.length aL : Value).ownBlock) (.slice aM aG.length aL) aG aE aW w _ ?side1 ?side2 A3.out).mono ?_
 (case side1 => repeat (first | (with_reducible first | exact HB.out | apply below_alloc | apply pw_below_drewN | apply below_drew1 | refine below_set ?_ aB.out) | exact HB.out))
 (case side2 => exact Kd.R_tight rfl aC.out)
 rintro e bH ⟨bD, rfl, aR, hb, hkp⟩
 refine ⟨_, rfl, ?_⟩
 have aP := q_ (blk_kept (bk_ aA.out) hkp (fun hs_ => (fun e_ => (Kd.R_ne aC.out aA.out (by decide)) e_) hs_))
 have aO := q_ (Kd.R_mono (ok' := fun k_ => True) aR (fun k_ hk_ => trivial))
 have aN := q_ (hb)
 clear aA
 clear HB
 clear aC
 have aA := aP
 have aV := aO
 have HB := aN
 clear aP aO aN
 (try clear hb)
 (try clear hkp)
 (try clear aR)
 refine ⟨⟨(blk_cell aA.out 0).trans rfl, (blk_cell aA.out 1).trans rfl⟩, fun hD => nm_ ?_⟩
 refine p_ 7 2 hT ?_
 refine done_ (done_of hT.out (by kernel_rfl)) ?_
 try go_wp2
 go_ret
 exact ⟨_, rf_, kr_ aV.out, bs_ HB.out aB.out⟩
def impl_LeafOf.f (k : Nat) (aD : ByteArray) (aC : ByteArray) : Option (ByteArray) := (impl_leafBytes.f k aD aC).bind fun aB => ((impl_Digest.f k aB).bind fun aA => (some aA))
theorem impl_LeafOf.calls (k : Nat) (aE : ByteArray) (aD : ByteArray) (r : ByteArray) (w : World) (h : impl_LeafOf.f k aE aD = some r) :
 Calls Try.prog 67 #[.agg #[.string aE, .string aD]] w fun e w' => e = .returned (.string r) ∧ Below w.heap.size w w' := by
 have aO := Try.underlying45
 have HB := q_ (Below.refl w.heap.size w)
 have H := h
 clear h
 unfold impl_LeafOf.f at H
 obtain ⟨aF, A2, H⟩ := bo_ H
 obtain ⟨aG, A3, H⟩ := bo_ H
 obtain rfl := Option.some.inj H
 go_enter Try.func67, Try.ntmps67
 go_wp2_with (first | ((with_reducible refine gate_dst (N := 1) rfl ?_); refine box_event rfl (N := 1) rfl (cs := #[.string aE, .string aD]) (t := 45) hr_ ?_; intro aM hg w4 hbox hb; have aB := q_ (hbox); have aC := ge_ hg (be_ HB.out); replace HB := q_ (below_step (be_ HB.out) hb); clear hb hbox hg; obtain ⟨aK, aJ, aI, aH⟩ := bx2_ aB.out) | ((with_reducible refine gate_callee (f := 83) rfl ?_); refine gl_ (some 4) Try.func83 #[.agg #[.string aE, .string aD]] rfl al_ ?_; (with_reducible refine (impl_leafBytes.calls k aE aD aF _ A2.out).mono ?_); rintro e w6 ⟨aN, rfl, aL, hb⟩; refine ⟨_, rfl, ?_⟩; have aA := q_ (Kd.R_lower aL (below_size (bs_ HB.out aC.out))); replace aB := q_ (bb_ aB.out hb); replace HB := q_ (below_step (bs_ HB.out aC.out) hb); (try clear hb); (try clear aL); obtain ⟨aR, aQ, aP⟩ := Kd.R_slice aA.out; subst aP) | ((with_reducible refine gate_callee (f := 45) rfl ?_); refine gl_ (some 5) Try.func45 #[.slice aR aF.length aQ] rfl al_ ?_; (with_reducible refine (impl_Digest.calls k _ _ aF aG _ ?side1 ?side2 A3.out).mono ?_); (case side1 => exact kc_ (Kd.R_reads' aA.out).2.2); (case side2 => exact (Kd.R_reads' aA.out).2.1); rintro e w8 ⟨rfl, hb⟩; refine ⟨_, rfl, ?_⟩; replace aA := q_ (Kd.R_below (kr_ aA.out) hb); replace aB := q_ (bb_ aB.out hb); replace HB := q_ (below_step (bs_ HB.out aC.out) hb); (try clear hb)))
 go_ret
 exact ⟨rf_, bs_ HB.out aC.out⟩
def impl_nodeBytes.f (a0 : ByteArray) (a1 : ByteArray) : Option (List Int) := (some (([1] : List Int) : List Int)).bind fun aB => (if aB.length + a0.size < 140737488355328 then ((some (aB ++ bytesOf a0 : List Int)).bind fun aA => (if aA.length + a1.size < 140737488355328 then (some (aA ++ bytesOf a1)) else (none))) else (none))
theorem impl_nodeBytes.calls (a0 : ByteArray) (a1 : ByteArray) (r : List Int) (w : World) (h : impl_nodeBytes.f a0 a1 = some r) :
 Calls Try.prog 84 #[.string a0, .string a1] w fun e w' => ∃ v0_ : Value, e = .returned (v0_) ∧ Kd.R (Kd.int .u8) 5 w' w.heap.size (fun _ => True) v0_ r ∧ Below w.heap.size w w' := by
 have HB := q_ (Below.refl w.heap.size w)
 have H := h
 clear h
 unfold impl_nodeBytes.f at H
 obtain ⟨aP, aC, H⟩ := by_ H
 obtain ⟨aU, H⟩ := ia_ H
 obtain ⟨aG, aM, H⟩ := by_ H
 obtain ⟨aT, H⟩ := ia_ H
 obtain ⟨aV, aA⟩ : ∃ y_ : List Int, y_ = (aG ++ bytesOf a1) := ⟨_, rfl⟩
 rw [← aA] at H
 have aK := Aside0.mk aA
 clear aA
 obtain rfl := Option.some.inj H
 go_enter Try.func84, Try.ntmps84
 go_wp2_with (first | ((with_reducible refine gate_dst (N := 5) rfl ?_); refine Kd.R_lit (Kd.int .u8) _ 5 ?hg (N := 5) ?hd (xs := ([1] : List Int)) (inner := [.int .u8 1]) (ok := fun _ => True) (okp := fun _ => True) ?hr ?hp (fun _ hk => hk) trivial (Below.refl _ _) (Nat.le_refl _) (by simp) ?_; (case hd => rfl); (case hg => rfl); (case hr => first | (go_simp; done) | (go_simp; rfl)); (case hp => exact (Reps.one (show Kd.M (Kd.int .u8) _ _ _ 1 [.int .u8 1] from rfl) (Reps.none _ _))); intro aR w5 aJ hb hg_ hnew_; clear hg_ hnew_; (first | rw [← aC.out] at aJ | (simp only [Int.reduceToNat] at aJ; rw [← aC.out] at aJ)); have aE := q_ (Kd.R_lower aJ (below_size (be_ HB.out))); replace HB := q_ (below_step (be_ HB.out) hb); clear hb aJ) | ((with_reducible refine gate_builtin (b := .append) (xs := #[.tmp 5, _]) rfl ?_); at_builtin; refine Kd.R_append_str (w0 := w) w.heap.size rfl (.tmp 5) _ 22 9 5 rfl Try.underlying22 Try.underlying9 info5 aR aP a0 (fun _ => True) rfl rfl ?aF ?aO ?aB ?aS ?aL ?_; (case aB => exact (be_ HB.out)); (case aF => exact (fun _ _ => trivial)); (case aO => exact (kr_ aE.out)); (case aS => exact (below_size (be_ HB.out))); (case aL => have := aU.out; omega); intro aQ w7 ho hb hg hat; rw [← aM.out] at ho; have aI := q_ (hb); have aH := q_ (ho); clear HB; clear aE; have HB := aI; have aD := aH; clear aI aH; clear ho hb hg hat) | ((with_reducible refine gate_builtin (b := .append) (xs := #[.tmp 7, _]) rfl ?_); at_builtin; refine Kd.R_append_str (w0 := w) w.heap.size rfl (.tmp 7) _ 22 9 5 rfl Try.underlying22 Try.underlying9 info5 aQ aG a1 (fun _ => True) rfl rfl ?aF ?aO ?aB ?aS ?aL ?_; (case aB => exact (be_ HB.out)); (case aF => exact (fun _ _ => trivial)); (case aO => exact (kr_ aD.out)); (case aS => exact (below_size (be_ HB.out))); (case aL => have := aT.out; omega); intro aW w8 ho hb hg hat; rw [← aK.out] at ho; have aI := q_ (hb); have aH := q_ (ho); clear HB; clear aD; have HB := aI; have aN := aH; clear aI aH; clear ho hb hg hat))
 go_ret
 exact ⟨_, rf_, kr_ aN.out, be_ HB.out⟩
def impl_NodeOf.f (k : Nat) (a0 : ByteArray) (a1 : ByteArray) : Option (ByteArray) := (impl_nodeBytes.f a0 a1).bind fun aB => ((impl_Digest.f k aB).bind fun aA => (some aA))
theorem impl_NodeOf.calls (k : Nat) (a0 : ByteArray) (a1 : ByteArray) (r : ByteArray) (w : World) (h : impl_NodeOf.f k a0 a1 = some r) :
 Calls Try.prog 68 #[.string a0, .string a1] w fun e w' => e = .returned (.string r) ∧ Below w.heap.size w w' := by
 have HB := q_ (Below.refl w.heap.size w)
 have H := h
 clear h
 unfold impl_NodeOf.f at H
 obtain ⟨aB, A3, H⟩ := bo_ H
 obtain ⟨aC, A4, H⟩ := bo_ H
 obtain rfl := Option.some.inj H
 go_enter Try.func68, Try.ntmps68
 go_wp2_with (first | ((with_reducible refine gate_callee (f := 84) rfl ?_); refine gl_ (some 7) Try.func84 #[.string a0, .string a1] rfl al_ ?_; (with_reducible refine (impl_nodeBytes.calls a0 a1 aB _ A3.out).mono ?_); rintro e w5 ⟨aE, rfl, aD, hb⟩; refine ⟨_, rfl, ?_⟩; have aA := q_ (Kd.R_lower aD (below_size (be_ HB.out))); replace HB := q_ (below_step (be_ HB.out) hb); (try clear hb); (try clear aD); obtain ⟨aH, aG, aF⟩ := Kd.R_slice aA.out; subst aF) | ((with_reducible refine gate_callee (f := 45) rfl ?_); refine gl_ (some 8) Try.func45 #[.slice aH aB.length aG] rfl al_ ?_; (with_reducible refine (impl_Digest.calls k _ _ aB aC _ ?side1 ?side2 A4.out).mono ?_); (case side1 => exact kc_ (Kd.R_reads' aA.out).2.2); (case side2 => exact (Kd.R_reads' aA.out).2.1); rintro e w7 ⟨rfl, hb⟩; refine ⟨_, rfl, ?_⟩; replace aA := q_ (Kd.R_below (kr_ aA.out) hb); replace HB := q_ (below_step (be_ HB.out) hb); (try clear hb)))
 go_ret
 exact ⟨rf_, be_ HB.out⟩
def impl_innerOf.f : Nat → List (S45) → Option (ByteArray)
 | 0, _ => none
 | k + 1, l0 => if (l0.length : Int) = 0 then ((impl_Digest.f k ([] : List Int)).bind fun aF => (some aF)) else (if (l0.length : Int) = 1 then (if 0 < (l0.length : Int) then ((impl_LeafOf.f k ((rd_T45 l0 0).f0) ((rd_T45 l0 0).f1)).bind fun aE => (some aE)) else (none)) else ((impl_half.f k (l0.length : Int)).bind fun aA => (if 0 ≤ aA then (if aA ≤ (l0.length : Int) then ((impl_innerOf.f k (l0.take (aA : Int).toNat)).bind fun aD => ((impl_innerOf.f k (l0.drop (aA : Int).toNat)).bind fun aC => ((impl_NodeOf.f k aD aC).bind fun aB => (some aB)))) else (none)) else (none))))
def impl_innerOf.T7 : Bool × List (List Nat × List Nat) := (true, [([], []), ([], []), ([0, 1], [0, 1]), ([2], [2]), ([], []), ([], []), ([4, 5], [4, 5]), ([6, 3], [6]), ([3, 7, 7], [3, 7]), ([8, 8, 0, 1, 2, 3, 4, 5, 6, 7, 8], [8])])
def impl_innerOf.B7 : List Nat := [0, 0, 3, 7, 0, 0, 48, 127, 255, 511]
theorem impl_innerOf.tab7 : rtab .any (opsOf Try.f47 7) = impl_innerOf.T7 := by kernel_rfl
theorem impl_innerOf.bits7 : waitsOk impl_innerOf.T7.2 impl_innerOf.B7 = true := by kernel_rfl
theorem impl_innerOf.calls (k : Nat) : ∀ (A0 : Option Addr) (c0 : Nat) (l0 : List (S45)) (r : ByteArray) (w : World) (bN : Kd.C k45 w A0 l0.length l0) (bO : l0.length ≤ c0) (h : impl_innerOf.f k l0 = some r),
 Calls Try.prog 47 #[.slice A0 l0.length c0] w fun e w' => e = .returned (.string r) ∧ Below w.heap.size w w' := by
 induction k using Nat.strongRecOn with
 | _ k ih =>
 intro A0 c0 l0 r w bN bO h
 cases k with
 | zero => exact absurd h (by simp [impl_innerOf.f])
 | succ k =>
 simp only [impl_innerOf.f] at h
 have cL := Try.underlying45
 have bW := Aside0.mk bN
 have cH := Aside0.mk bO
 clear bN bO
 have HB := q_ (Below.refl w.heap.size w)
 have H : (if (l0.length : Int) = 0 then ((impl_Digest.f k ([] : List Int)).bind fun aX => (some aX)) else (if (l0.length : Int) = 1 then (if 0 < (l0.length : Int) then ((impl_LeafOf.f k ((rd_T45 l0 0).f0) ((rd_T45 l0 0).f1)).bind fun aW => (some aW)) else (none)) else ((impl_half.f k (l0.length : Int)).bind fun aA => (if 0 ≤ aA then (if aA ≤ (l0.length : Int) then ((impl_innerOf.f k (l0.take (aA : Int).toNat)).bind fun aF => ((impl_innerOf.f k (l0.drop (aA : Int).toNat)).bind fun aE => ((impl_NodeOf.f k aF aE).bind fun aV => (some aV)))) else (none)) else (none))))) = some r := h
 clear h
 by_cases c2 : (l0.length : Int) = 0
 ·
  rw [if_pos c2] at H
  have bT := beq_iff_eq.mpr c2
  have bS := bne_eq_false_iff_eq.mpr c2
  clear c2
  obtain ⟨aX, A3, H⟩ := bo_ H
  obtain rfl := Option.some.inj H
  go_enter Try.func47, Try.ntmps47
  go_wp2_with (first | ((with_reducible refine gate_callee (f := 45) rfl ?_); refine gl_ (some 8) Try.func45 #[.slice none 0 0] rfl al_ ?_; (refine (impl_Digest.calls k _ _ ([] : List Int) aX _ ?side1 ?side2 A3.out).mono ?_); (case side1 => exact Kd.C_nil _ _); (case side2 => exact Nat.le_refl _); rintro e w4 ⟨rfl, hb⟩; refine ⟨_, rfl, ?_⟩; replace HB := q_ (below_step (be_ HB.out) hb); (try clear hb)))
  go_ret
  exact ⟨rf_, be_ HB.out⟩
 ·
  rw [if_neg c2] at H
  have bT := beq_eq_false_iff_ne.mpr c2
  have bS := bne_iff_ne.mpr c2
  have cO : ¬ (l0 = []) := fun h_ => c2 (by rw [h_]; rfl)
  by_cases c5 : (l0.length : Int) = 1
  ·
   rw [if_pos c5] at H
   have bR := beq_iff_eq.mpr c5
   have bQ := bne_eq_false_iff_eq.mpr c5
   clear c5
   obtain ⟨c6, H⟩ := ip_ H
   have cN : decide (0 < (l0.length : Int)) = true := decide_eq_true c6
   have cM : decide (0 < l0.length) = true := decide_eq_true (by omega)
   clear c6
   obtain ⟨aW, A7, H⟩ := bo_ H
   obtain rfl := Option.some.inj H
   have aZ : 0 ≤ (0 : Int) := (by omega)
   have aY : 0 < (l0.length : Int) := od_
   obtain ⟨cG, bP, aM, aL⟩ := at_T45 bW.out 0 aZ aY
   cases bP
   have bX : (0 < l0.length) = True := eq_true (by omega)
   (try simp only [Int.toNat_zero, Nat.zero_mul, Addr.add_zero'] at aM)
   (try simp only [Int.toNat_zero, Nat.zero_mul, Addr.add_zero'] at aL)
   replace aZ := eq_true aZ
   replace aY := eq_true aY
   go_enter Try.func47, Try.ntmps47
   go_wp2_with (first | ((with_reducible refine gate_callee (f := 67) rfl ?_); refine gl_ (some 14) Try.func67 #[.agg #[.string ((rd_T45 l0 0).f0), .string ((rd_T45 l0 0).f1)]] rfl al_ ?_; (with_reducible refine (impl_LeafOf.calls k ((rd_T45 l0 0).f0) ((rd_T45 l0 0).f1) aW _ A7.out).mono ?_); rintro e w8 ⟨rfl, hb⟩; refine ⟨_, rfl, ?_⟩; replace HB := q_ (below_step (be_ HB.out) hb); (try clear hb)))
   go_ret
   exact ⟨rf_, be_ HB.out⟩
  ·
   rw [if_neg c5] at H
   have bR := beq_eq_false_iff_ne.mpr c5
   have bQ := bne_iff_ne.mpr c5
   obtain ⟨aA, A9, H⟩ := bo_ H
   obtain ⟨bV, H⟩ := ip_ H
   have cF := eq_true bV
   have cE : decide (0 ≤ aA) = true := decide_eq_true bV
   clear bV
   obtain ⟨bU, H⟩ := ip_ H
   have cD := eq_true bU
   have cC : decide (aA ≤ (l0.length : Int)) = true := decide_eq_true bU
   clear bU
   obtain ⟨aJ, aH⟩ : ∃ y_ : List (S45), y_ = (l0.take (aA : Int).toNat) := ⟨_, rfl⟩
   rw [← aH] at H
   have aS := Aside0.mk aH
   clear aH
   obtain ⟨aF, cU, H⟩ := bo_ H
   have cB := eq_true (od_ : 0 ≤ aA)
   have cA := eq_true (od_ : aA ≤ (l0.length : Int))
   obtain ⟨aC, aG⟩ : ∃ y_ : List (S45), y_ = (l0.drop (aA : Int).toNat) := ⟨_, rfl⟩
   rw [← aG] at H
   have aR := Aside0.mk aG
   clear aG
   obtain ⟨aE, cT, H⟩ := bo_ H
   obtain ⟨aV, cS, H⟩ := bo_ H
   obtain rfl := Option.some.inj H
   go_enter Try.func47, Try.ntmps47
   try go_wp2_with (first | ((with_reducible refine gate_callee (f := 50) rfl ?_); refine gl_ (some 17) Try.func50 #[.int .i64 (l0.length : Int)] rfl al_ ?_; (with_reducible refine (impl_half.calls k (l0.length : Int) aA _ A9.out).mono ?_); rintro e w' ⟨rfl, ⟨nd, rfl⟩⟩; refine ⟨_, rfl, ?_⟩))
   replace HB := q_ (below_drew1 (pw_below_drewN HB.out nd))
   have bL : (aA : Int) ≤ ((l0.length : Int) : Int) := od_
   obtain ⟨cK, aQ, _, bF, _⟩ := info_parts info45
   have aD : l0.length ≤ c0 := cH.out
   have bH : Kd.C k45 _ A0 l0.length l0 := bW.out
   have bD := cut_to (P := Try.prog) 24 45 .i64 Try.underlying24 aQ A0 l0.length c0 aA od_ bL aD
   have bB := Kd.C_take (m := (aA : Int).toNat) bH (by omega)
   have bA : aJ.length = (aA : Int).toNat := (by rw [aS.out, List.length_take]; omega)
   rw [← aS.out] at bB
   rw [← bA] at bD
   have aU := Aside0.mk bB
   have bJ := q_ (show aJ.length ≤ c0 from by omega)
   clear bB bH aD aQ bF
   have cQ := Aside0.mk bA
   clear bA
   replace bL := eq_true bL
   have bK : (aA : Int) ≤ ((l0.length : Int) : Int) := od_
   obtain ⟨cJ, aP, _, aO, _⟩ := info_parts info45
   have aB : l0.length ≤ c0 := cH.out
   have bG : Kd.C k45 _ A0 l0.length l0 := bW.out
   have bM : (0 : Int) ≤ (aA : Int) := od_
   have bC := cut_from (P := Try.prog) 24 45 .i64 Try.underlying24 aP 2 aO A0 l0.length c0 aA bM bK
   have aI := Kd.C_drop (m := (aA : Int).toNat) (c := c0) bG (by omega) aB
   obtain ⟨cI, aN⟩ : ∃ A1, A1 = (if c0 = (aA : Int).toNat then A0 else (A0 : Option Addr).map (·.add ((aA : Int).toNat * 2))) := ⟨_, rfl⟩
   obtain ⟨bZ, bE⟩ : ∃ c1, c1 = c0 - (aA : Int).toNat := ⟨_, rfl⟩
   have aK : aC.length = l0.length - (aA : Int).toNat := (by rw [aR.out, List.length_drop] <;> omega)
   rw [show (l0).drop (aA : Int).toNat = aC from aR.out.symm] at aI
   replace aI : Kd.C k45 _ cI aC.length aC := (by rw [aN]; exact aI)
   rw [← aK, ← aN, ← bE] at bC
   have aT := Aside0.mk aI
   have bI := q_ (show aC.length ≤ bZ from by rw [aK, bE]; exact Nat.sub_le_sub_right aB _)
   clear aI bG aB aP aO bE
   have cP := Aside0.mk aK
   have cR := Aside0.mk aN
   clear aK aN
   replace bK := eq_true bK
   refine sr_ (fun w' => True) [] impl_innerOf.tab7 impl_innerOf.bits7 trivial (fun hD hT hW => ?_)
   generalize (World.drewN w nd).drew = cY at HB aU aT hD ⊢
   refine p_ 0 18 hT ?_; refine p_ 1 19 hT ?_; refine p_ 2 20 hT ?_; refine p_ 4 22 hT ?_; refine p_ 5 23 hT ?_; refine p_ 6 24 hT ?_
   refine oc_ 3 21 (bq_ 7 3) hT Try.func47 #[.slice A0 aJ.length c0] ?_
   with_reducible refine (ih k (by omega) _ _ aJ aF _ ?side1 ?side2 cU.out).mono ?_
   (case side1 => exact kc_ (Kd.C_below aU.out HB.out))
   (case side2 => exact bJ.out)
   rintro e cX ⟨rfl, hb⟩
   refine ⟨_, rfl, ?_⟩
   replace HB := q_ (below_step (be_ HB.out) hb)
   (try clear hb)
   (try clear bY)
   (try clear hk)
   (try clear hi)
   refine ⟨trivial, fun hD => nm_ ?_⟩
   refine oc_ 7 25 (bq_ 8 2) hT Try.func47 #[.slice cI aC.length bZ] ?_
   with_reducible refine (ih k (by omega) _ _ aC aE _ ?side1 ?side2 cT.out).mono ?_
   (case side1 => exact kc_ (Kd.C_below aT.out HB.out))
   (case side2 => exact bI.out)
   rintro e cW ⟨rfl, hb⟩
   refine ⟨_, rfl, ?_⟩
   replace HB := q_ (below_step (be_ HB.out) hb)
   (try clear hb)
   (try clear bY)
   (try clear hk)
   (try clear hi)
   refine ⟨trivial, fun hD => nm_ ?_⟩
   refine oc_ 8 26 (bq_ 9 1) hT Try.func68 #[.string aF, .string aE] ?_
   with_reducible refine (impl_NodeOf.calls k aF aE aV _ cS.out).mono ?_
   rintro e cV ⟨rfl, hb⟩
   refine ⟨_, rfl, ?_⟩
   replace HB := q_ (below_step (be_ HB.out) hb)
   (try clear hb)
   (try clear bY)
   (try clear hk)
   (try clear hi)
   refine ⟨trivial, fun hD => nm_ ?_⟩
   refine p_ 9 2 hT ?_
   refine done_ (done_of hT.out (by kernel_rfl)) ?_
   try go_wp2
   go_ret
   exact ⟨rf_, be_ HB.out⟩
def impl_rootOf.f (k : Nat) (l0 : List (S45)) : Option (ByteArray) := (impl_innerOf.f k l0).bind fun aC => ((impl_rootBytes.f k (l0.length : Int) aC).bind fun aB => ((impl_Digest.f k aB).bind fun aA => (some aA)))
theorem impl_rootOf.calls (k : Nat) (A0 : Option Addr) (c0 : Nat) (l0 : List (S45)) (r : ByteArray) (w : World) (aE : Kd.C k45 w A0 l0.length l0) (aG : l0.length ≤ c0) (h : impl_rootOf.f k l0 = some r) :
 Calls Try.prog 20 #[.slice A0 l0.length c0] w fun e w' => e = .returned (.string r) ∧ Below w.heap.size w w' := by
 have aK := Aside0.mk aE
 have aL := Aside0.mk aG
 clear aE aG
 have HB := q_ (Below.refl w.heap.size w)
 have H := h
 clear h
 unfold impl_rootOf.f at H
 obtain ⟨aC, A2, H⟩ := bo_ H
 obtain ⟨aB, A3, H⟩ := bo_ H
 obtain ⟨aD, A4, H⟩ := bo_ H
 obtain rfl := Option.some.inj H
 go_enter Try.func20, Try.ntmps20
 go_wp2_with (first | ((with_reducible refine gate_callee (f := 47) rfl ?_); refine gl_ (some 6) Try.func47 #[.slice A0 l0.length c0] rfl al_ ?_; (with_reducible refine (impl_innerOf.calls k _ _ l0 aC _ ?side1 ?side2 A2.out).mono ?_); (case side1 => exact kc_ aK.out); (case side2 => exact aL.out); rintro e w5 ⟨rfl, hb⟩; refine ⟨_, rfl, ?_⟩; replace HB := q_ (below_step (be_ HB.out) hb); (try clear hb)) | ((with_reducible refine gate_callee (f := 46) rfl ?_); refine gl_ (some 7) Try.func46 #[.int .i64 (l0.length : Int), .string aC] rfl al_ ?_; (with_reducible refine (impl_rootBytes.calls k (l0.length : Int) aC aB _ A3.out).mono ?_); rintro e w6 ⟨aH, rfl, aF, hb⟩; refine ⟨_, rfl, ?_⟩; have aA := q_ (Kd.R_lower aF (below_size (be_ HB.out))); replace HB := q_ (below_step (be_ HB.out) hb); (try clear hb); (try clear aF); obtain ⟨aM, aJ, aI⟩ := Kd.R_slice aA.out; subst aI) | ((with_reducible refine gate_callee (f := 45) rfl ?_); refine gl_ (some 8) Try.func45 #[.slice aM aB.length aJ] rfl al_ ?_; (with_reducible refine (impl_Digest.calls k _ _ aB aD _ ?side1 ?side2 A4.out).mono ?_); (case side1 => exact kc_ (Kd.R_reads' aA.out).2.2); (case side2 => exact (Kd.R_reads' aA.out).2.1); rintro e w8 ⟨rfl, hb⟩; refine ⟨_, rfl, ?_⟩; replace aA := q_ (Kd.R_below (kr_ aA.out) hb); replace HB := q_ (below_step (be_ HB.out) hb); (try clear hb)))
 go_ret
 exact ⟨rf_, be_ HB.out⟩
def impl_RootOf.f (k : Nat) (l0 : List (S45)) : Option (ByteArray) := if (l0.length : Int) > 60 then (some (⟨#[]⟩ : ByteArray)) else ((impl_rootOf.f k l0).bind fun aA => (some aA))
theorem impl_RootOf.calls (k : Nat) (A0 : Option Addr) (c0 : Nat) (l0 : List (S45)) (r : ByteArray) (w : World) (aD : Kd.C k45 w A0 l0.length l0) (aE : l0.length ≤ c0) (h : impl_RootOf.f k l0 = some r) :
 Calls Try.prog 6 #[.slice A0 l0.length c0] w fun e w' => e = .returned (.string r) ∧ Below w.heap.size w w' := by
 have aF := Aside0.mk aD
 have aG := Aside0.mk aE
 clear aD aE
 have HB := q_ (Below.refl w.heap.size w)
 have H := h
 clear h
 unfold impl_RootOf.f at H
 by_cases c2 : (l0.length : Int) > 60
 ·
  rw [if_pos c2] at H
  have aC : decide (60 < (l0.length : Int)) = true := decide_eq_true c2
  have aB : decide (60 < l0.length) = true := decide_eq_true (by omega)
  clear c2
  obtain rfl := Option.some.inj H
  go_enter Try.func6, Try.ntmps6
  go_wp2
  go_ret
  exact ⟨rf_, be_ HB.out⟩
 ·
  rw [if_neg c2] at H
  have aC : decide (60 < (l0.length : Int)) = false := decide_eq_false c2
  have aB : decide (60 < l0.length) = false := decide_eq_false (by omega)
  clear c2
  obtain ⟨aA, A3, H⟩ := bo_ H
  obtain rfl := Option.some.inj H
  go_enter Try.func6, Try.ntmps6
  go_wp2_with (first | ((with_reducible refine gate_callee (f := 20) rfl ?_); refine gl_ (some 7) Try.func20 #[.slice A0 l0.length c0] rfl al_ ?_; (with_reducible refine (impl_rootOf.calls k _ _ l0 aA _ ?side1 ?side2 A3.out).mono ?_); (case side1 => exact kc_ aF.out); (case side2 => exact aG.out); rintro e w4 ⟨rfl, hb⟩; refine ⟨_, rfl, ?_⟩; replace HB := q_ (below_step (be_ HB.out) hb); (try clear hb)))
  go_ret
  exact ⟨rf_, be_ HB.out⟩
def impl_isBetween.f (a0 : ByteArray) (a1 : ByteArray) (a2 : ByteArray) : Option (Bool) := if ((Op.bytesLess a0.toList a1.toList) = true) then (some false) else (if a2.toList = ([] : List UInt8) then (some true) else (some (Op.bytesLess a0.toList a2.toList)))
theorem impl_isBetween.calls (a0 : ByteArray) (a1 : ByteArray) (a2 : ByteArray) (r : Bool) (w : World) (h : impl_isBetween.f a0 a1 a2 = some r) :
 Calls Try.prog 21 #[.string a0, .string a1, .string a2] w fun e w' => e = .returned (.bool r) ∧ Drawn0 w w' := by
 have H := h
 clear h
 unfold impl_isBetween.f at H
 by_cases c4 : ((Op.bytesLess a0.toList a1.toList) = true)
 ·
  rw [if_pos c4] at H
  have aC : (Op.bytesLess a0.toList a1.toList) = true := c4
  clear c4
  obtain rfl := Option.some.inj H
  go_enter Try.func21, Try.ntmps21
  go_wp2
  go_ret
  exact ⟨rs_, by repeat (first | exact Drawn0.refl _ | apply Drawn0.step)⟩
 ·
  rw [if_neg c4] at H
  have aC : (Op.bytesLess a0.toList a1.toList) = false := by simpa using c4
  clear c4
  by_cases c5 : a2.toList = ([] : List UInt8)
  ·
   rw [if_pos c5] at H
   have aB := beq_iff_eq.mpr c5
   have aA := bne_eq_false_iff_eq.mpr c5
   clear c5
   obtain rfl := Option.some.inj H
   go_enter Try.func21, Try.ntmps21
   go_wp2
   go_ret
   exact ⟨rs_, by repeat (first | exact Drawn0.refl _ | apply Drawn0.step)⟩
  ·
   rw [if_neg c5] at H
   have aB := beq_eq_false_iff_ne.mpr c5
   have aA := bne_iff_ne.mpr c5
   obtain rfl := Option.some.inj H
   go_enter Try.func21, Try.ntmps21
   go_wp2
   go_ret
   exact ⟨rs_, by repeat (first | exact Drawn0.refl _ | apply Drawn0.step)⟩
def impl_Between.l0 : Nat → ByteArray → ByteArray → List (S45) → List (S45) → Int → Int → Option ((List (S45)))
 | 0, _, _, _, _, _, _ => none
 | k + 1, x1, x2, x7, aB, aC, aA => if aA < aC then (if 0 ≤ aA then (if aA < (aB.length : Int) then ((impl_isBetween.f ((rd_T45 aB aA).f0) x1 x2).bind fun aD => (if aD = true then (if x7.length < 4398046511104 then (impl_Between.l0 k x1 x2 (x7 ++ [(⟨(rd_T45 aB aA).f0, (rd_T45 aB aA).f1⟩ : S45)]) aB aC (wrap64 (aA + 1))) else (none)) else (impl_Between.l0 k x1 x2 x7 aB aC (wrap64 (aA + 1))))) else (none)) else (none)) else (some x7)
def impl_Between.f (k : Nat) (l0 : List (S45)) (a1 : ByteArray) (a2 : ByteArray) : Option ((List (S45))) := impl_Between.l0 k a1 a2 ([] : List (S45)) l0 (l0.length : Int) 0
theorem impl_Between.calls (k : Nat) (A0 : Option Addr) (c0 : Nat) (l0 : List (S45)) (a1 : ByteArray) (a2 : ByteArray) (r : List (S45)) (w : World) (bL : Kd.C k45 w A0 l0.length l0) (bM : l0.length ≤ c0) (h : impl_Between.f k l0 a1 a2 = some r) :
 Calls Try.prog 7 #[.slice A0 l0.length c0, .string a1, .string a2] w fun e w' => ∃ v0_ : Value, e = .returned (v0_) ∧ Kd.R k45 45 w' w.heap.size (fun _ => True) v0_ r ∧ Below w.heap.size w w' := by
 have bQ := Try.underlying45
 have bN := Aside0.mk bL
 have bW := Aside0.mk bM
 clear bL bM
 have HB := q_ (Below.refl w.heap.size w)
 have H := h
 clear h
 unfold impl_Between.f at H
 have H' := Aside0.mk H
 clear H
 go_enter Try.func7, Try.ntmps7
 go_wp2
 go_loopg [7, 12] k (fun kq v7 bP w' => ∃ (aH : List (S45)) (aA : Int), bP = .int .i64 aA ∧ Aside0 (impl_Between.l0 kq a1 a2 aH l0 (l0.length : Int) aA = some r) ∧ Aside0 (kq ≤ k) ∧ Aside0 (Kd.R k45 45 w' w.heap.size (fun _ => True) v7 aH) ∧ Aside0 (Below w.heap.size w w'))
 case atStart => exact ⟨(([] : List (S45))), (0), rs_, H', ⟨Nat.le_refl _⟩, ⟨by first | exact Kd.R_nil _ _ _ _ _ | exact Kd.N_nil _ _ _ _ _ | exact Kd.V_nil _ _ _ _ _ | exact Kd.Q_nil _ _ _ _ _ | exact Kd.S_nil _ _ _ _ _⟩, ⟨be_ HB.out⟩⟩
 case round =>
  clear H'
  obtain ⟨aH, aA, rfl, HA, bB, aE, HB⟩ := hrel
  cases gk with
  | zero => exact absurd HA.out (by simp [impl_Between.l0])
  | succ k1 =>
   have H := HA.out
   clear HA
   simp only [impl_Between.l0] at H
   by_cases c4 : aA < (l0.length : Int)
   ·
    rw [if_pos c4] at H
    have bG := decide_eq_true c4
    clear c4
    obtain ⟨bS, H⟩ := id_ H
    obtain ⟨bR, H⟩ := id_ H
    obtain ⟨bD, A7, H⟩ := bo_ H
    by_cases c8 : bD = true
    rotate_left
    ·
     replace c8 := Bool.eq_false_iff.mpr c8
     subst c8
     rw [if_neg (show ¬ (false = true) by decide)] at H
     have H' := Aside0.mk H
     clear H
     obtain ⟨aN, aM, aK, aJ, bF, bE⟩ := at2_ HB.out (at_T45 bN.out aA)
     cases aM
     go_wp2_with (first | ((with_reducible refine gate_dst (N := 9) rfl ?_); refine box_event rfl (N := 9) rfl (cs := #[.string (⟨#[]⟩ : ByteArray), .string (⟨#[]⟩ : ByteArray)]) (t := 45) hr_ ?_; intro aC hg bT hbox hb; replace aE := q_ (Kd.R_below (Kd.R_elderB (kr_ aE.out) aC (Nat.le_of_eq hg.symm)) hb); have aD := q_ (hbox); have aG := ge_ hg (be_ HB.out); replace HB := q_ (below_step (be_ HB.out) hb); clear hb hbox hg; obtain ⟨aY, aX, aU, aT⟩ := bx2_ aD.out) | ((with_reducible refine gate_callee (f := 21) rfl ?_); refine gl_ (some 20) Try.func21 #[.string ((rd_T45 l0 aA).f0), .string a1, .string a2] rfl al_ ?_; (with_reducible refine (impl_isBetween.calls ((rd_T45 l0 aA).f0) a1 a2 false _ A7.out).mono ?_); rintro e w' ⟨rfl, ⟨nd, rfl⟩⟩; refine ⟨_, rfl, ?_⟩))
     go_roundg k1
     case measure => have := bB.out; omega
     case rel => exact ⟨(aH), (wrap64 (aA + 1)), rs_, H', ⟨by have := bB.out; omega⟩, ⟨by (with_reducible repeat (first | apply Kd.R_alloc | apply Kd.R_drewN | apply Kd.R_drew)); exact Kd.R_mono (Kd.R_far (p := ⟨aC, 1, none⟩) (Kd.R_far (p := ⟨aC, 0, none⟩) (Kd.R_mono aE.out (fun k_ hk => (⟨hk, hk.2⟩ : _ ∧ k_ ≠ aC))) (fun _ hk => hk.2) (.string ((rd_T45 l0 aA).f0))) (fun _ hk => hk.2) (.string ((rd_T45 l0 aA).f1))) (fun _ hk => trivial)⟩, ⟨bs_ HB.out aG.out⟩⟩
    subst c8
    rw [if_pos rfl] at H
    obtain ⟨bH, H⟩ := ia_ H
    obtain ⟨bC, aI⟩ : ∃ y_ : List (S45), y_ = (aH ++ [(⟨(rd_T45 l0 aA).f0, (rd_T45 l0 aA).f1⟩ : S45)]) := ⟨_, rfl⟩
    rw [← aI] at H
    have aQ := Aside0.mk aI
    clear aI
    have H' := Aside0.mk H
    clear H
    obtain ⟨aN, aM, aK, aJ, bF, bE⟩ := at2_ HB.out (at_T45 bN.out aA)
    cases aM
    go_wp2_with (first | ((with_reducible refine gate_dst (N := 9) rfl ?_); refine box_event rfl (N := 9) rfl (cs := #[.string (⟨#[]⟩ : ByteArray), .string (⟨#[]⟩ : ByteArray)]) (t := 45) hr_ ?_; intro aC hg bV hbox hb; replace aE := q_ (Kd.R_below (Kd.R_elderB (kr_ aE.out) aC (Nat.le_of_eq hg.symm)) hb); have aD := q_ (hbox); have aG := ge_ hg (be_ HB.out); replace HB := q_ (below_step (be_ HB.out) hb); clear hb hbox hg; obtain ⟨bA, aZ, aW, aV⟩ := bx2_ aD.out) | ((with_reducible refine gate_callee (f := 21) rfl ?_); refine gl_ (some 20) Try.func21 #[.string ((rd_T45 l0 aA).f0), .string a1, .string a2] rfl al_ ?_; (with_reducible refine (impl_isBetween.calls ((rd_T45 l0 aA).f0) a1 a2 true _ A7.out).mono ?_); rintro e w' ⟨rfl, ⟨nd, rfl⟩⟩; refine ⟨_, rfl, ?_⟩) | ((with_reducible refine gate_builtin (b := .append) (xs := #[.tmp 21, .tmp 23]) rfl ?_); at_builtin; refine Kd.R_append k45 (w0 := w) w.heap.size rfl (.tmp 21) (.tmp 23) 24 45 (.agg #[(.string ⟨#[]⟩), (.string ⟨#[]⟩)]) 32 rfl Try.underlying24 info45 rfl (by decide) (by omega) u7 aH (⟨(rd_T45 l0 aA).f0, (rd_T45 l0 aA).f1⟩ : S45) [.string ((rd_T45 l0 aA).f0), .string ((rd_T45 l0 aA).f1)] (fun k_ => k_ ≠ aC) (fun _ => False) rfl (by first | (go_simp; done) | (go_simp; rfl)) ?aP (fun _ hk => hk.elim) ?aF ?aO ?aB ?aS ?aL ?_; (case aP => exact k45_mkM _ _ _ (⟨(rd_T45 l0 aA).f0, (rd_T45 l0 aA).f1⟩ : S45)); (case aB => exact (bs_ HB.out aG.out)); (case aF => exact (fun k_ hk => Kd.freshB (g := aC) (o := .cells #[.string ((rd_T45 l0 aA).f0), .string ((rd_T45 l0 aA).f1)] 45 (0, 0)) (by (with_reducible repeat (first | refine blk_drewN ?_ _ | refine blk_drew ?_ | refine blk_alloc ?_ _)); refine blk_put (cs := #[.string ((rd_T45 l0 aA).f0), .string (⟨#[]⟩ : ByteArray)]) ?_ 1 _ rfl; (with_reducible repeat (first | refine blk_drewN ?_ _ | refine blk_drew ?_ | refine blk_alloc ?_ _)); refine blk_put (cs := #[.string (⟨#[]⟩ : ByteArray), .string (⟨#[]⟩ : ByteArray)]) ?_ 0 _ rfl; (with_reducible repeat (first | refine blk_drewN ?_ _ | refine blk_drew ?_ | refine blk_alloc ?_ _)); exact aD.out) k_ hk)); (case aO => exact (by (with_reducible repeat (first | apply Kd.R_alloc | apply Kd.R_drewN | apply Kd.R_drew)); exact Kd.R_mono (Kd.R_far (p := ⟨aC, 1, none⟩) (Kd.R_far (p := ⟨aC, 0, none⟩) (Kd.R_mono aE.out (fun k_ hk => (⟨hk, hk.2⟩ : _ ∧ k_ ≠ aC))) (fun _ hk => hk.2) (.string ((rd_T45 l0 aA).f0))) (fun _ hk => hk.2) (.string ((rd_T45 l0 aA).f1))) (fun _ hk => hk.1.2))); (case aS => exact (below_size (bs_ HB.out aG.out))); (case aL => have := bH.out; omega); intro bO bU ho hb hg hat; rw [← aQ.out] at ho; have bK := q_ (blk_grown (g := aC) (o := .cells #[.string ((rd_T45 l0 aA).f0), .string ((rd_T45 l0 aA).f1)] 45 (0, 0)) (by (with_reducible repeat (first | refine blk_drewN ?_ _ | refine blk_drew ?_ | refine blk_alloc ?_ _)); refine blk_put (cs := #[.string ((rd_T45 l0 aA).f0), .string (⟨#[]⟩ : ByteArray)]) ?_ 1 _ rfl; (with_reducible repeat (first | refine blk_drewN ?_ _ | refine blk_drew ?_ | refine blk_alloc ?_ _)); refine blk_put (cs := #[.string (⟨#[]⟩ : ByteArray), .string (⟨#[]⟩ : ByteArray)]) ?_ 0 _ rfl; (with_reducible repeat (first | refine blk_drewN ?_ _ | refine blk_drew ?_ | refine blk_alloc ?_ _)); exact aD.out) hg (Kd.R_away aE.out (fun _ hk => hk.2))); have bJ := q_ (hb); have bI := q_ (ho); clear aD; clear HB; clear aE; have aD := bK; have HB := bJ; have aR := bI; clear bK bJ bI; clear ho hb hg hat))
    go_roundg k1
    case measure => have := bB.out; omega
    case rel => exact ⟨(bC), (wrap64 (aA + 1)), rs_, H', ⟨by have := bB.out; omega⟩, ⟨by (with_reducible repeat (first | apply Kd.R_alloc | apply Kd.R_drewN | apply Kd.R_drew)); exact Kd.R_mono aR.out (fun _ hk => trivial)⟩, ⟨bs_ HB.out aG.out⟩⟩
   ·
    rw [if_neg c4] at H
    have bG := decide_eq_false c4
    clear c4
    obtain rfl := Option.some.inj H
    go_wp2
    go_ret
    exact ⟨_, rf_, kr_ aE.out, be_ HB.out⟩
def impl_inRange.f (a0 : Int) (a1 : Int) (a2 : Int) : Option (Bool) := if a0 ≥ a1 then (some (decide (a0 ≤ a2))) else (some false)
theorem impl_inRange.calls (a0 : Int) (a1 : Int) (a2 : Int) (r : Bool) (w : World) (h : impl_inRange.f a0 a1 a2 = some r) :
 Calls Try.prog 22 #[.int .i64 a0, .int .i64 a1, .int .i64 a2] w fun e w' => e = .returned (.bool r) ∧ Drawn0 w w' := by
 have H := h
 clear h
 unfold impl_inRange.f at H
 by_cases c4 : a0 ≥ a1
 ·
  rw [if_pos c4] at H
  have aA : decide (a1 ≤ a0) = true := decide_eq_true c4
  clear c4
  obtain rfl := Option.some.inj H
  go_enter Try.func22, Try.ntmps22
  go_wp2
  go_ret
  exact ⟨rs_, by repeat (first | exact Drawn0.refl _ | apply Drawn0.step)⟩
 ·
  rw [if_neg c4] at H
  have aA : decide (a1 ≤ a0) = false := decide_eq_false c4
  clear c4
  obtain rfl := Option.some.inj H
  go_enter Try.func22, Try.ntmps22
  go_wp2
  go_ret
  exact ⟨rs_, by repeat (first | exact Drawn0.refl _ | apply Drawn0.step)⟩
def impl_isKeyByte.f (a0 : Int) : Option (Bool) := if a0 ≥ 97 then (if a0 ≤ 122 then (some true) else (if a0 ≥ 48 then (some (decide (a0 ≤ 57))) else (some false))) else (if a0 ≥ 48 then (some (decide (a0 ≤ 57))) else (some false))
theorem impl_isKeyByte.calls (a0 : Int) (r : Bool) (w : World) (h : impl_isKeyByte.f a0 = some r) :
 Calls Try.prog 92 #[.int .u8 a0] w fun e w' => e = .returned (.bool r) ∧ Drawn0 w w' := by
 have H := h
 clear h
 unfold impl_isKeyByte.f at H
 by_cases c2 : a0 ≥ 97
 ·
  rw [if_pos c2] at H
  have aD : decide (97 ≤ a0) = true := decide_eq_true c2
  clear c2
  by_cases c3 : a0 ≤ 122
  ·
   rw [if_pos c3] at H
   have aC := decide_eq_true c3
   clear c3
   obtain rfl := Option.some.inj H
   go_enter Try.func92, Try.ntmps92
   go_wp2
   go_ret
   exact ⟨rs_, by repeat (first | exact Drawn0.refl _ | apply Drawn0.step)⟩
  rw [if_neg c3] at H
  have aC := decide_eq_false c3
  clear c3
  by_cases c4 : a0 ≥ 48
  ·
   rw [if_pos c4] at H
   have aB : decide (48 ≤ a0) = true := decide_eq_true c4
   clear c4
   obtain rfl := Option.some.inj H
   go_enter Try.func92, Try.ntmps92
   go_wp2
   go_ret
   exact ⟨rs_, by repeat (first | exact Drawn0.refl _ | apply Drawn0.step)⟩
  rw [if_neg c4] at H
  have aB : decide (48 ≤ a0) = false := decide_eq_false c4
  clear c4
  obtain rfl := Option.some.inj H
  go_enter Try.func92, Try.ntmps92
  go_wp2
  go_ret
  exact ⟨rs_, by repeat (first | exact Drawn0.refl _ | apply Drawn0.step)⟩
 ·
  rw [if_neg c2] at H
  have aD : decide (97 ≤ a0) = false := decide_eq_false c2
  clear c2
  by_cases c5 : a0 ≥ 48
  ·
   rw [if_pos c5] at H
   have aA : decide (48 ≤ a0) = true := decide_eq_true c5
   clear c5
   obtain rfl := Option.some.inj H
   go_enter Try.func92, Try.ntmps92
   go_wp2
   go_ret
   exact ⟨rs_, by repeat (first | exact Drawn0.refl _ | apply Drawn0.step)⟩
  ·
   rw [if_neg c5] at H
   have aA : decide (48 ≤ a0) = false := decide_eq_false c5
   clear c5
   obtain rfl := Option.some.inj H
   go_enter Try.func92, Try.ntmps92
   go_wp2
   go_ret
   exact ⟨rs_, by repeat (first | exact Drawn0.refl _ | apply Drawn0.step)⟩
def impl_isWord.l0 : Nat → ByteArray → Int → Option (Bool)
 | 0, _, _ => none
 | k + 1, x0, x3 => if x3 < (x0.size : Int) then (if 0 ≤ x3 then ((impl_isKeyByte.f (bt x0 x3)).bind fun aA => (if aA = true then (impl_isWord.l0 k x0 (wrap64 (x3 + 1))) else (some false))) else (none)) else (some true)
def impl_isWord.f (k : Nat) (a0 : ByteArray) : Option (Bool) := impl_isWord.l0 k a0 0
theorem impl_isWord.calls (k : Nat) (a0 : ByteArray) (r : Bool) (w : World) (h : impl_isWord.f k a0 = some r) :
 Calls Try.prog 85 #[.string a0] w fun e w' => e = .returned (.bool r) ∧ Drawn0 w w' := by
 have H := h
 clear h
 unfold impl_isWord.f at H
 have H' := Aside0.mk H
 clear H
 go_enter Try.func85, Try.ntmps85
 go_wp2
 go_loopg [3] k (fun kq v3 w' => ∃ (aA : Int), v3 = .int .i64 aA ∧ Aside0 (impl_isWord.l0 kq a0 aA = some r) ∧ Aside0 (kq ≤ k) ∧ Drawn0 w w')
 case atStart => exact ⟨(0), rs_, H', ⟨Nat.le_refl _⟩, by repeat (first | exact Drawn0.refl _ | apply Drawn0.step)⟩
 case round =>
  clear H'
  obtain ⟨aA, rfl, HA, aD, ⟨m1, rfl⟩⟩ := hrel
  cases gk with
  | zero => exact absurd HA.out (by simp [impl_isWord.l0])
  | succ k1 =>
   have H := HA.out
   clear HA
   simp only [impl_isWord.l0] at H
   by_cases c2 : aA < (a0.size : Int)
   ·
    rw [if_pos c2] at H
    have aC := decide_eq_true c2
    clear c2
    obtain ⟨aF, H⟩ := id_ H
    obtain ⟨aB, A5, H⟩ := bo_ H
    by_cases c6 : aB = true
    rotate_left
    ·
     replace c6 := Bool.eq_false_iff.mpr c6
     subst c6
     rw [if_neg (show ¬ (false = true) by decide)] at H
     obtain rfl := Option.some.inj H
     have p4 : 0 ≤ (aA : Int) := od_
     have q4 : aA < (a0.size : Int) := od_
     have aE := bt_at a0 aA
     replace p4 := eq_true p4
     replace q4 := eq_true q4
     go_wp2_with (first | ((with_reducible refine gate_callee (f := 92) rfl ?_); refine gl_ (some 13) Try.func92 #[.int .u8 (bt a0 aA)] rfl al_ ?_; (with_reducible refine (impl_isKeyByte.calls (bt a0 aA) false _ A5.out).mono ?_); rintro e w' ⟨rfl, ⟨nd, rfl⟩⟩; refine ⟨_, rfl, ?_⟩))
     go_ret
     exact ⟨rs_, by repeat (first | exact Drawn0.refl _ | apply Drawn0.step)⟩
    subst c6
    rw [if_pos rfl] at H
    have H' := Aside0.mk H
    clear H
    have p4 : 0 ≤ (aA : Int) := od_
    have q4 : aA < (a0.size : Int) := od_
    have aE := bt_at a0 aA
    replace p4 := eq_true p4
    replace q4 := eq_true q4
    go_wp2_with (first | ((with_reducible refine gate_callee (f := 92) rfl ?_); refine gl_ (some 13) Try.func92 #[.int .u8 (bt a0 aA)] rfl al_ ?_; (with_reducible refine (impl_isKeyByte.calls (bt a0 aA) true _ A5.out).mono ?_); rintro e w' ⟨rfl, ⟨nd, rfl⟩⟩; refine ⟨_, rfl, ?_⟩))
    go_roundg k1
    case measure => have := aD.out; omega
    case rel => exact ⟨(wrap64 (aA + 1)), rs_, H', ⟨by have := aD.out; omega⟩, by repeat (first | exact Drawn0.refl _ | apply Drawn0.step)⟩
   ·
    rw [if_neg c2] at H
    have aC := decide_eq_false c2
    clear c2
    obtain rfl := Option.some.inj H
    go_wp2
    go_ret
    exact ⟨rs_, by repeat (first | exact Drawn0.refl _ | apply Drawn0.step)⟩
def impl_KeyOk.f (k : Nat) (a0 : ByteArray) : Option (Bool) := (impl_inRange.f (a0.size : Int) 1 12).bind fun aB => (if aB = true then ((impl_isWord.f k a0).bind fun aA => (some aA)) else (some false))
theorem impl_KeyOk.calls (k : Nat) (a0 : ByteArray) (r : Bool) (w : World) (h : impl_KeyOk.f k a0 = some r) :
 Calls Try.prog 69 #[.string a0] w fun e w' => e = .returned (.bool r) ∧ Drawn0 w w' := by
 have H := h
 clear h
 unfold impl_KeyOk.f at H
 obtain ⟨aB, A2, H⟩ := bo_ H
 by_cases c3 : aB = true
 ·
  subst c3
  rw [if_pos rfl] at H
  obtain ⟨aA, A4, H⟩ := bo_ H
  obtain rfl := Option.some.inj H
  go_enter Try.func69, Try.ntmps69
  go_wp2_with (first | ((with_reducible refine gate_callee (f := 22) rfl ?_); refine gl_ (some 5) Try.func22 #[.int .i64 (a0.size : Int), .int .i64 1, .int .i64 12] rfl al_ ?_; (with_reducible refine (impl_inRange.calls (a0.size : Int) 1 12 true _ A2.out).mono ?_); rintro e w' ⟨rfl, ⟨nd, rfl⟩⟩; refine ⟨_, rfl, ?_⟩) | (go_at_call 85; (with_reducible refine (impl_isWord.calls k a0 aA _ A4.out).mono ?_); rintro e w' ⟨rfl, ⟨nd, rfl⟩⟩))
  go_ret
  exact ⟨rs_, by repeat (first | exact Drawn0.refl _ | apply Drawn0.step)⟩
 ·
  replace c3 := Bool.eq_false_iff.mpr c3
  subst c3
  rw [if_neg (show ¬ (false = true) by decide)] at H
  obtain rfl := Option.some.inj H
  go_enter Try.func69, Try.ntmps69
  go_wp2_with (first | ((with_reducible refine gate_callee (f := 22) rfl ?_); refine gl_ (some 5) Try.func22 #[.int .i64 (a0.size : Int), .int .i64 1, .int .i64 12] rfl al_ ?_; (with_reducible refine (impl_inRange.calls (a0.size : Int) 1 12 false _ A2.out).mono ?_); rintro e w' ⟨rfl, ⟨nd, rfl⟩⟩; refine ⟨_, rfl, ?_⟩))
  go_ret
  exact ⟨rs_, by repeat (first | exact Drawn0.refl _ | apply Drawn0.step)⟩
def impl_PairOk.f (k : Nat) (aC : ByteArray) (aB : ByteArray) : Option (Bool) := (impl_KeyOk.f k aC).bind fun aA => (if aA = true then (some (decide ((aB.size : Int) ≤ 20))) else (some false))
theorem impl_PairOk.calls (k : Nat) (aA : ByteArray) (aD : ByteArray) (r : Bool) (w : World) (h : impl_PairOk.f k aA aD = some r) :
 Calls Try.prog 48 #[.agg #[.string aA, .string aD]] w fun e w' => e = .returned (.bool r) ∧ Below w.heap.size w w' := by
 have aO := Try.underlying45
 have HB := q_ (Below.refl w.heap.size w)
 have H := h
 clear h
 unfold impl_PairOk.f at H
 obtain ⟨aF, A2, H⟩ := bo_ H
 by_cases c3 : aF = true
 ·
  subst c3
  rw [if_pos rfl] at H
  obtain rfl := Option.some.inj H
  go_enter Try.func48, Try.ntmps48
  go_wp2_with (first | ((with_reducible refine gate_dst (N := 1) rfl ?_); (try (refine gate_guard (by rfl) ?_; dsimp only)); refine box_event rfl (N := 1) rfl (cs := #[.string aA, .string aD]) (t := 45) hr_ ?_; intro aE hg w4 hbox hb; have aC := q_ (hbox); have aB := ge_ hg (be_ HB.out); replace HB := q_ (below_step (be_ HB.out) hb); clear hb hbox hg; obtain ⟨aN, aM, aJ, aI⟩ := bx2_ aC.out) | ((with_reducible refine gate_callee (f := 69) rfl ?_); refine gl_ (some 5) Try.func69 #[.string aA] rfl al_ ?_; (with_reducible refine (impl_KeyOk.calls k aA true _ A2.out).mono ?_); rintro e w' ⟨rfl, ⟨nd, rfl⟩⟩; refine ⟨_, rfl, ?_⟩))
  go_ret
  exact ⟨rf_, bs_ HB.out aB.out⟩
 ·
  replace c3 := Bool.eq_false_iff.mpr c3
  subst c3
  rw [if_neg (show ¬ (false = true) by decide)] at H
  obtain rfl := Option.some.inj H
  go_enter Try.func48, Try.ntmps48
  go_wp2_with (first | ((with_reducible refine gate_dst (N := 1) rfl ?_); (try (refine gate_guard (by rfl) ?_; dsimp only)); refine box_event rfl (N := 1) rfl (cs := #[.string aA, .string aD]) (t := 45) hr_ ?_; intro aE hg w6 hbox hb; have aC := q_ (hbox); have aB := ge_ hg (be_ HB.out); replace HB := q_ (below_step (be_ HB.out) hb); clear hb hbox hg; obtain ⟨aL, aK, aH, aG⟩ := bx2_ aC.out) | ((with_reducible refine gate_callee (f := 69) rfl ?_); refine gl_ (some 5) Try.func69 #[.string aA] rfl al_ ?_; (with_reducible refine (impl_KeyOk.calls k aA false _ A2.out).mono ?_); rintro e w' ⟨rfl, ⟨nd, rfl⟩⟩; refine ⟨_, rfl, ?_⟩))
  go_ret
  exact ⟨rf_, bs_ HB.out aB.out⟩
def impl_isPlace.f (a0 : Int) (a1 : Int) : Option (Bool) := (impl_inRange.f a1 1 60).bind fun aB => (if aB = true then ((impl_inRange.f a0 0 (wrap64 (a1 - 1))).bind fun aA => (some aA)) else (some false))
theorem impl_isPlace.calls (a0 : Int) (a1 : Int) (r : Bool) (w : World) (h : impl_isPlace.f a0 a1 = some r) :
 Calls Try.prog 58 #[.int .i64 a0, .int .i64 a1] w fun e w' => e = .returned (.bool r) ∧ Drawn0 w w' := by
 have H := h
 clear h
 unfold impl_isPlace.f at H
 obtain ⟨aB, A3, H⟩ := bo_ H
 by_cases c4 : aB = true
 ·
  subst c4
  rw [if_pos rfl] at H
  obtain ⟨aA, A5, H⟩ := bo_ H
  obtain rfl := Option.some.inj H
  go_enter Try.func58, Try.ntmps58
  go_wp2_with (first | ((with_reducible refine gate_callee (f := 22) rfl ?_); refine gl_ (some 6) Try.func22 #[.int .i64 a1, .int .i64 1, .int .i64 60] rfl al_ ?_; (with_reducible refine (impl_inRange.calls a1 1 60 true _ A3.out).mono ?_); rintro e w' ⟨rfl, ⟨nd, rfl⟩⟩; refine ⟨_, rfl, ?_⟩) | (go_at_call 22; (with_reducible refine (impl_inRange.calls a0 0 (wrap64 (a1 - 1)) aA _ A5.out).mono ?_); rintro e w' ⟨rfl, ⟨nd, rfl⟩⟩))
  go_ret
  exact ⟨rs_, by repeat (first | exact Drawn0.refl _ | apply Drawn0.step)⟩
 ·
  replace c4 := Bool.eq_false_iff.mpr c4
  subst c4
  rw [if_neg (show ¬ (false = true) by decide)] at H
  obtain rfl := Option.some.inj H
  go_enter Try.func58, Try.ntmps58
  go_wp2_with (first | ((with_reducible refine gate_callee (f := 22) rfl ?_); refine gl_ (some 6) Try.func22 #[.int .i64 a1, .int .i64 1, .int .i64 60] rfl al_ ?_; (with_reducible refine (impl_inRange.calls a1 1 60 false _ A3.out).mono ?_); rintro e w' ⟨rfl, ⟨nd, rfl⟩⟩; refine ⟨_, rfl, ?_⟩))
  go_ret
  exact ⟨rs_, by repeat (first | exact Drawn0.refl _ | apply Drawn0.step)⟩
end
end Go.Proofs.Ytgmfhchhbidlnaa.P