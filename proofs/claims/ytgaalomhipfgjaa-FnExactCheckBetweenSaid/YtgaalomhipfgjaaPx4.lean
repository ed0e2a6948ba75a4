-- Written by wip/xp/xp.py over the kit's print; Lean checks it.
import Derived.Test.YtgaalomhipfgjaaStr
import Derived.Test.YtgaalomhipfgjaaPx0
import Derived.Test.YtgaalomhipfgjaaPx1
import Derived.Test.YtgaalomhipfgjaaPx3
namespace Go.Proofs.Ytgaalomhipfgjaa.P
open Go.RowKit Go.Proofs.YtgaalomhipfgjaaW.PrintWords Go.Proofs.YtgaalomhipfgjaaW.PrintLast Go.Proofs.YtgaalomhipfgjaaW.PrintMore
attribute [local go_sem] max2_int min2_int max_two min_two max_three min_three max_four min_four   -- for this text's walks alone
set_option linter.unusedVariables false
set_option linter.unusedSimpArgs false

/-! ###  spec_KeyOk: function 110 -/
def spec_KeyOk.l0 : Nat → ByteArray → Int → Option (Bool)
  | 0, _, _ => none
  | k + 1, x0, x3 => if x3 < (x0.size : Int) then (if 0 ≤ x3 then ((spec_l1In.f (wrap64 (bt x0 x3)) 97 122).bind fun t294 => (if t294 = true then (spec_KeyOk.l0 k x0 (wrap64 (x3 + 1))) else ((spec_l1In.f (wrap64 (bt x0 x3)) 48 57).bind fun t295 => (if t295 = true then (spec_KeyOk.l0 k x0 (wrap64 (x3 + 1))) else (some false))))) else (none)) else ((spec_l1In.f (x0.size : Int) 1 12).bind fun t293 => (some t293))
def spec_KeyOk.f (k : Nat) (a0 : ByteArray) : Option (Bool) := spec_KeyOk.l0 k a0 0
set_option maxHeartbeats 8000000 in
set_option maxRecDepth 100000 in
theorem spec_KeyOk.calls (k : Nat) (a0 : ByteArray) (r : Bool) (w : World) (h : spec_KeyOk.f k a0 = some r) :
  Calls Try.prog 110 #[.string a0] w fun e w' => e = .returned (.bool r) ∧ Drawn0 w w' := by
  have H : (spec_KeyOk.l0 k a0 0) = some r := h
  clear h
  have H' := Aside0.mk H
  clear H
  go_enter Try.func110, Try.ntmps110
  go_wp2
  go_loopg [3] k (fun kq v3 w' => ∃ (x3_1 : Int), v3 = .int .i64 x3_1 ∧ Aside0 (spec_KeyOk.l0 kq a0 x3_1 = some r) ∧ Aside0 (kq ≤ k) ∧ Drawn0 w w')
  case atStart => exact ⟨(0), rs_, H', ⟨Nat.le_refl _⟩, by repeat (first | exact Drawn0.refl _ | apply Drawn0.step)⟩
  case round =>
   clear H'
   try clear c1
   obtain ⟨x3_1, rfl, HA, HK1, ⟨m1, rfl⟩⟩ := hrel
   cases gk with
   | zero => exact absurd HA.out (by simp [spec_KeyOk.l0])
   | succ k1 =>
    have H := HA.out
    clear HA
    simp only [spec_KeyOk.l0] at H
    by_cases c2 : x3_1 < (a0.size : Int)
    · rw [if_pos c2] at H
      have c2b0 : decide (x3_1 < (a0.size : Int)) = true := decide_eq_true c2
      clear c2
      by_cases c3 : 0 ≤ x3_1
      rotate_left
      · rw [if_neg c3] at H; exact absurd H (by simp)
      rw [if_pos c3] at H
      have c3b0 : decide (0 ≤ x3_1) = true := decide_eq_true c3
      clear c3
      replace H := Option.bind_eq_some_iff.mp H
      obtain ⟨t294, A50, H⟩ := H
      have A5 := Aside0.mk A50
      clear A50
      by_cases c6 : t294 = true
      · subst c6
        rw [if_pos rfl] at H
        have H' := Aside0.mk H
        clear H
        have p4 : 0 ≤ (x3_1 : Int) := od_
        have q4 : x3_1 < (a0.size : Int) := od_
        have hx4 := bt_at a0 x3_1
        replace p4 := eq_true p4
        replace q4 := eq_true q4
        go_wp2_with (first | ((with_reducible refine gate_callee (f := 61) rfl ?_); refine gl_ (some 14) Try.func61 #[.int .i64 (wrap64 (bt a0 x3_1)), .int .i64 97, .int .i64 122] rfl al_ ?_; (with_reducible refine (spec_l1In.calls (wrap64 (bt a0 x3_1)) 97 122 true _ A5.out).mono ?_); rintro e w' ⟨rfl, ⟨nd, rfl⟩⟩; refine ⟨_, rfl, ?_⟩))
        go_roundg k1
        case measure => have := HK1.out; omega
        case rel => exact ⟨(wrap64 (x3_1 + 1)), rs_, H', ⟨by have := HK1.out; omega⟩, by repeat (first | exact Drawn0.refl _ | apply Drawn0.step)⟩
      replace c6 := Bool.eq_false_iff.mpr c6
      subst c6
      rw [if_neg (show ¬ (false = true) by decide)] at H
      replace H := Option.bind_eq_some_iff.mp H
      obtain ⟨t295, A80, H⟩ := H
      have A8 := Aside0.mk A80
      clear A80
      by_cases c9 : t295 = true
      rotate_left
      · replace c9 := Bool.eq_false_iff.mpr c9
        subst c9
        rw [if_neg (show ¬ (false = true) by decide)] at H
        obtain rfl := Option.some.inj H
        have p4 : 0 ≤ (x3_1 : Int) := od_
        have q4 : x3_1 < (a0.size : Int) := od_
        have hx4 := bt_at a0 x3_1
        replace p4 := eq_true p4
        replace q4 := eq_true q4
        go_wp2_with (first | ((with_reducible refine gate_callee (f := 61) rfl ?_); refine gl_ (some 14) Try.func61 #[.int .i64 (wrap64 (bt a0 x3_1)), .int .i64 97, .int .i64 122] rfl al_ ?_; (with_reducible refine (spec_l1In.calls (wrap64 (bt a0 x3_1)) 97 122 false _ A5.out).mono ?_); rintro e w' ⟨rfl, ⟨nd, rfl⟩⟩; refine ⟨_, rfl, ?_⟩; have p7 : 0 ≤ (x3_1 : Int) := od_; have q7 : x3_1 < (a0.size : Int) := od_; have hx7 := bt_at a0 x3_1; replace p7 := eq_true p7; replace q7 := eq_true q7) | (go_at_call 61; (with_reducible refine (spec_l1In.calls (wrap64 (bt a0 x3_1)) 48 57 false _ A8.out).mono ?_); rintro e w' ⟨rfl, ⟨nd, rfl⟩⟩))
        go_ret
        exact ⟨rs_, by repeat (first | exact Drawn0.refl _ | apply Drawn0.step)⟩
      subst c9
      rw [if_pos rfl] at H
      have H' := Aside0.mk H
      clear H
      have p4 : 0 ≤ (x3_1 : Int) := od_
      have q4 : x3_1 < (a0.size : Int) := od_
      have hx4 := bt_at a0 x3_1
      replace p4 := eq_true p4
      replace q4 := eq_true q4
      go_wp2_with (first | ((with_reducible refine gate_callee (f := 61) rfl ?_); refine gl_ (some 14) Try.func61 #[.int .i64 (wrap64 (bt a0 x3_1)), .int .i64 97, .int .i64 122] rfl al_ ?_; (with_reducible refine (spec_l1In.calls (wrap64 (bt a0 x3_1)) 97 122 false _ A5.out).mono ?_); rintro e w' ⟨rfl, ⟨nd, rfl⟩⟩; refine ⟨_, rfl, ?_⟩; have p7 : 0 ≤ (x3_1 : Int) := od_; have q7 : x3_1 < (a0.size : Int) := od_; have hx7 := bt_at a0 x3_1; replace p7 := eq_true p7; replace q7 := eq_true q7) | (go_at_call 61; (with_reducible refine (spec_l1In.calls (wrap64 (bt a0 x3_1)) 48 57 true _ A8.out).mono ?_); rintro e w' ⟨rfl, ⟨nd, rfl⟩⟩))
      go_roundg k1
      case measure => have := HK1.out; omega
      case rel => exact ⟨(wrap64 (x3_1 + 1)), rs_, H', ⟨by have := HK1.out; omega⟩, by repeat (first | exact Drawn0.refl _ | apply Drawn0.step)⟩
    · rw [if_neg c2] at H
      have c2b0 : decide (x3_1 < (a0.size : Int)) = false := decide_eq_false c2
      clear c2
      replace H := Option.bind_eq_some_iff.mp H
      obtain ⟨t293, A100, H⟩ := H
      have A10 := Aside0.mk A100
      clear A100
      obtain rfl := Option.some.inj H
      go_wp2_with (first | ((with_reducible refine gate_callee (f := 61) rfl ?_); refine gl_ (some 26) Try.func61 #[.int .i64 (a0.size : Int), .int .i64 1, .int .i64 12] rfl al_ ?_; (with_reducible refine (spec_l1In.calls (a0.size : Int) 1 12 t293 _ A10.out).mono ?_); rintro e w' ⟨rfl, ⟨nd, rfl⟩⟩; refine ⟨_, rfl, ?_⟩))
      go_ret
      exact ⟨rs_, by repeat (first | exact Drawn0.refl _ | apply Drawn0.step)⟩

/-! ###  spec_PairOk: function 68 -/
def spec_PairOk.f (k : Nat) (a0_0 : ByteArray) (a0_1 : ByteArray) : Option (Bool) := (spec_KeyOk.f k a0_0).bind fun t297 => (if t297 = true then (some (decide ((a0_1.size : Int) ≤ 20))) else (some false))
set_option maxHeartbeats 8000000 in
set_option maxRecDepth 100000 in
theorem spec_PairOk.calls (k : Nat) (a0_0 : ByteArray) (a0_1 : ByteArray) (r : Bool) (w : World) (h : spec_PairOk.f k a0_0 a0_1 = some r) :
  Calls Try.prog 68 #[.agg #[.string a0_0, .string a0_1]] w fun e w' => e = .returned (.bool r) ∧ Below w.heap.size w w' := by
  have hu26 := Try.underlying26
  have HB := q_ (Below.refl w.heap.size w)
  have H : ((spec_KeyOk.f k a0_0).bind fun t297 => (if t297 = true then (some (decide ((a0_1.size : Int) ≤ 20))) else (some false))) = some r := h
  clear h
  replace H := Option.bind_eq_some_iff.mp H
  obtain ⟨t297, A20, H⟩ := H
  have A2 := Aside0.mk A20
  clear A20
  by_cases c3 : t297 = true
  · subst c3
    rw [if_pos rfl] at H
    obtain rfl := Option.some.inj H
    go_enter Try.func68, Try.ntmps68
    go_wp2_with (first | ((with_reducible refine gate_dst (N := 1) rfl ?_); (try (refine gate_guard (by rfl) ?_; dsimp only)); refine box_event rfl (N := 1) rfl (cs := #[.string a0_0, .string a0_1]) (t := 26) hr_ ?_; intro gb296 hg w4 hbox hb; have BK296 := q_ (hbox); have GW296 := q_ ((by rw [hg]; exact (below_size (be_ HB.out)) : w.heap.size ≤ gb296)); have GE296 := q_ ((by rw [hg]; exact (below_size (be_ HB.out)) : w.heap.size ≤ gb296)); replace HB := q_ (below_step (be_ HB.out) hb); clear hb hbox hg; obtain ⟨hcz5_0, hcz5_1, hfz5_0, hfz5_1⟩ := bx2_ BK296.out) | ((with_reducible refine gate_callee (f := 110) rfl ?_); refine gl_ (some 5) Try.func110 #[.string a0_0] rfl al_ ?_; (with_reducible refine (spec_KeyOk.calls k a0_0 true _ A2.out).mono ?_); rintro e w' ⟨rfl, ⟨nd, rfl⟩⟩; refine ⟨_, rfl, ?_⟩))
    go_ret
    exact ⟨rf_, bs_ HB.out GE296.out⟩
  · replace c3 := Bool.eq_false_iff.mpr c3
    subst c3
    rw [if_neg (show ¬ (false = true) by decide)] at H
    obtain rfl := Option.some.inj H
    go_enter Try.func68, Try.ntmps68
    go_wp2_with (first | ((with_reducible refine gate_dst (N := 1) rfl ?_); (try (refine gate_guard (by rfl) ?_; dsimp only)); refine box_event rfl (N := 1) rfl (cs := #[.string a0_0, .string a0_1]) (t := 26) hr_ ?_; intro gb296 hg w6 hbox hb; have BK296 := q_ (hbox); have GW296 := q_ ((by rw [hg]; exact (below_size (be_ HB.out)) : w.heap.size ≤ gb296)); have GE296 := q_ ((by rw [hg]; exact (below_size (be_ HB.out)) : w.heap.size ≤ gb296)); replace HB := q_ (below_step (be_ HB.out) hb); clear hb hbox hg; obtain ⟨hcz7_0, hcz7_1, hfz7_0, hfz7_1⟩ := bx2_ BK296.out) | ((with_reducible refine gate_callee (f := 110) rfl ?_); refine gl_ (some 5) Try.func110 #[.string a0_0] rfl al_ ?_; (with_reducible refine (spec_KeyOk.calls k a0_0 false _ A2.out).mono ?_); rintro e w' ⟨rfl, ⟨nd, rfl⟩⟩; refine ⟨_, rfl, ?_⟩))
    go_ret
    exact ⟨rf_, bs_ HB.out GE296.out⟩

/-! ###  spec_l4Hashed: function 103 -/
mutual
def spec_l4Hashed.j0 : Nat → List Int → Int → List ByteArray → ByteArray → Int → Int → Int → Option (List ByteArray × Bool)
  | 0, _, _, _, _, _, _, _ => none
  | k + 1, x0, x1, x3, x10, x11, x12, x13 => if 0 ≤ (wrap64 ((x3.length : Int) - 1)) then (if (wrap64 ((x3.length : Int) - 1)) ≤ (x3.length : Int) then ((spec_l4Hashed.f k x0 x13 x12 (x3.take ((wrap64 ((x3.length : Int) - 1)) : Int).toNat)).bind fun bt307 => (if bt307.2 = true then (if 0 ≤ (wrap64 ((bt307.1.length : Int) - 1)) then (if (wrap64 ((bt307.1.length : Int) - 1)) < (bt307.1.length : Int) then (if (rdOf ByteArray.empty bt307.1 (wrap64 ((bt307.1.length : Int) - 1))).size ≤ 9223372036854775807 then ((spec_Digest.f k (bytesOf (rdOf ByteArray.empty bt307.1 (wrap64 ((bt307.1.length : Int) - 1))))).bind fun t319 => (if x1 < x11 then ((spec_l4Node.f t319 x10).bind fun t320 => (if bt307.1.length < 8796093022208 then (some ((bt307.1 ++ [strOfNums t320]), true)) else (none))) else ((spec_l4Node.f x10 t319).bind fun t326 => (if bt307.1.length < 8796093022208 then (some ((bt307.1 ++ [strOfNums t326]), true)) else (none))))) else (none)) else (none)) else (none)) else (some ((([] : List ByteArray)), false)))) else (none)) else (none)
def spec_l4Hashed.f : Nat → List Int → Int → Int → List ByteArray → Option (List ByteArray × Bool)
  | 0, _, _, _, _ => none
  | k + 1, l0, a1, a2, l3 => if a2 < 2 then (some ((([strOfNums l0] : List ByteArray)), ((l3.length : Int) == 0))) else (if (l3.length : Int) = 0 then (some ((([] : List ByteArray)), false)) else (if 0 ≤ (wrap64 ((l3.length : Int) - 1)) then (if (wrap64 ((l3.length : Int) - 1)) < (l3.length : Int) then ((spec_l4Half.f k a2).bind fun t305 => (if a1 ≥ t305 then (spec_l4Hashed.j0 k l0 a1 l3 (rdOf ByteArray.empty l3 (wrap64 ((l3.length : Int) - 1))) t305 (wrap64 (a2 - t305)) (wrap64 (a1 - t305))) else (spec_l4Hashed.j0 k l0 a1 l3 (rdOf ByteArray.empty l3 (wrap64 ((l3.length : Int) - 1))) t305 t305 a1))) else (none)) else (none)))
end
set_option maxHeartbeats 8000000 in
set_option maxRecDepth 100000 in
theorem spec_l4Hashed.calls (k : Nat) : ∀ (A0 : Option Addr) (c0 : Nat) (l0 : List Int) (a1 : Int) (a2 : Int) (A3 : Option Addr) (c3 : Nat) (l3 : List ByteArray) (r1 : List ByteArray) (r2 : Bool) (w : World) (hr0 : Kd.C (Kd.int .u8) w A0 l0.length l0) (hc0 : l0.length ≤ c0) (hr3 : Kd.C Kd.string w A3 l3.length l3) (hc3 : l3.length ≤ c3) (h : spec_l4Hashed.f k l0 a1 a2 l3 = some (r1, r2)),
  Calls Try.prog 103 #[.slice A0 l0.length c0, .int .i64 a1, .int .i64 a2, .slice A3 l3.length c3] w fun e w' => ∃ v0_ : Value, e = .returned (.tuple #[v0_, .bool r2]) ∧ Kd.R Kd.string 9 w' w.heap.size (fun _ => True) v0_ r1 ∧ Below w.heap.size w w' := by
  induction k using Nat.strongRecOn with
  | _ k ih =>
  intro A0 c0 l0 a1 a2 A3 c3 l3 r1 r2 w hr0 hc0 hr3 hc3 h
  cases k with
  | zero => exact absurd h (by simp [spec_l4Hashed.f])
  | succ k =>
  simp only [spec_l4Hashed.f] at h
  have HR0 := Aside0.mk hr0
  have HC0 := Aside0.mk hc0
  clear hr0 hc0
  have HR3 := Aside0.mk hr3
  have HC3 := Aside0.mk hc3
  clear hr3 hc3
  have HB := q_ (Below.refl w.heap.size w)
  have H : (if a2 < 2 then (some ((([strOfNums l0] : List ByteArray)), ((l3.length : Int) == 0))) else (if (l3.length : Int) = 0 then (some ((([] : List ByteArray)), false)) else (if 0 ≤ (wrap64 ((l3.length : Int) - 1)) then (if (wrap64 ((l3.length : Int) - 1)) < (l3.length : Int) then ((spec_l4Half.f k a2).bind fun t305 => (if a1 ≥ t305 then (spec_l4Hashed.j0 k l0 a1 l3 (rdOf ByteArray.empty l3 (wrap64 ((l3.length : Int) - 1))) t305 (wrap64 (a2 - t305)) (wrap64 (a1 - t305))) else (spec_l4Hashed.j0 k l0 a1 l3 (rdOf ByteArray.empty l3 (wrap64 ((l3.length : Int) - 1))) t305 t305 a1))) else (none)) else (none)))) = some (r1, r2) := h
  clear h
  by_cases c5 : a2 < 2
  · rw [if_pos c5] at H
    have c5b0 : decide (a2 < 2) = true := decide_eq_true c5
    clear c5
    obtain ⟨y298, hy298⟩ : ∃ y_ : List ByteArray, y_ = (([strOfNums l0] : List ByteArray)) := ⟨_, rfl⟩
    replace H : (some (y298, ((l3.length : Int) == 0))) = some (r1, r2) := ry_ hy298 H
    have Ny298 := Aside0.mk hy298
    clear hy298
    simp only [Option.some.injEq, Prod.mk.injEq] at H
    obtain ⟨rfl, rfl⟩ := H
    have hcv6 := Kd.C_string (P := Try.prog) (A := A0) (c := c0) Try.underlying22 Try.underlying5 Try.underlying9 HR0.out
    have hcv7d := fun n_ => Kd.C_string (P := Try.prog) (A := A0) (c := c0) Try.underlying22 Try.underlying5 Try.underlying9 (Kd.C_drewN HR0.out n_)
    go_enter Try.func103, Try.ntmps103
    go_wp2_with (first | ((with_reducible refine gate_dst (N := 21) rfl ?_); refine Kd.R_lit Kd.string _ 9 ?hg (N := 21) ?hd (xs := ([strOfNums l0] : List ByteArray)) (inner := [.string (strOfNums l0)]) (ok := fun _ => True) (okp := fun _ => True) ?hr ?hp (fun _ hk => hk) trivial (Below.refl _ _) (Nat.le_refl _) (by simp) ?_; (case hd => rfl); (case hg => rfl); (case hr => first | (go_simp; done) | (go_simp; rfl)); (case hp => exact (Reps.one (show Kd.M Kd.string _ _ _ (strOfNums l0) [.string (strOfNums l0)] from rfl) (Reps.none _ _))); intro v299 w8 ho9 hb hg_ hnew_; clear hg_ hnew_; (first | rw [← Ny298.out] at ho9 | (simp only [Int.reduceToNat] at ho9; rw [← Ny298.out] at ho9)); have HO300 := q_ (Kd.R_lower ho9 (below_size (be_ HB.out))); replace HB := q_ (below_step (be_ HB.out) hb); clear hb ho9))
    go_ret2
    exact ⟨_, rf_, by (with_reducible repeat (first | apply Kd.R_alloc | apply Kd.R_drewN | apply Kd.R_drew)); exact HO300.out, be_ HB.out⟩
  · rw [if_neg c5] at H
    have c5b0 : decide (a2 < 2) = false := decide_eq_false c5
    clear c5
    by_cases c10 : (l3.length : Int) = 0
    · rw [if_pos c10] at H
      have c10b0 : ((l3.length : Int) == 0) = true := beq_iff_eq.mpr c10
      have c10b1 : ((l3.length : Int) != 0) = false := bne_eq_false_iff_eq.mpr c10
      clear c10
      obtain ⟨y301, hy301⟩ : ∃ y_ : List ByteArray, y_ = (([] : List ByteArray)) := ⟨_, rfl⟩
      replace H : (some (y301, false)) = some (r1, r2) := ry_ hy301 H
      have Ny301 := Aside0.mk hy301
      clear hy301
      simp only [Option.some.injEq, Prod.mk.injEq] at H
      obtain ⟨rfl, rfl⟩ := H
      go_enter Try.func103, Try.ntmps103
      go_wp2_with (first | ((with_reducible refine gate_dst (N := 28) rfl ?_); refine Kd.R_lit Kd.string _ 9 ?hg (N := 28) ?hd (xs := ([] : List ByteArray)) (inner := []) (ok := fun _ => True) (okp := fun _ => True) ?hr ?hp (fun _ hk => hk) trivial (Below.refl _ _) (Nat.le_refl _) (by simp) ?_; (case hd => rfl); (case hg => rfl); (case hr => first | (go_simp; done) | (go_simp; rfl)); (case hp => exact (Reps.none _ _)); intro v302 w11 ho12 hb hg_ hnew_; clear hg_ hnew_; (first | rw [← Ny301.out] at ho12 | (simp only [Int.reduceToNat] at ho12; rw [← Ny301.out] at ho12)); have HO303 := q_ (Kd.R_lower ho12 (below_size (be_ HB.out))); replace HB := q_ (below_step (be_ HB.out) hb); clear hb ho12))
      go_ret2
      exact ⟨_, rf_, by (with_reducible repeat (first | apply Kd.R_alloc | apply Kd.R_drewN | apply Kd.R_drew)); exact HO303.out, be_ HB.out⟩
    · rw [if_neg c10] at H
      have c10b0 : ((l3.length : Int) == 0) = false := beq_eq_false_iff_ne.mpr c10
      have c10b1 : ((l3.length : Int) != 0) = true := bne_iff_ne.mpr c10
      have c10b2 : ¬ (l3 = []) := fun h_ => c10 (by rw [h_]; rfl)
      obtain ⟨ji13, hji13⟩ : ∃ j_ : Int, (wrap64 ((l3.length : Int) - 1)) = j_ := ⟨_, rfl⟩
      replace H : (if 0 ≤ (ji13) then (if (ji13) < (l3.length : Int) then ((spec_l4Half.f k a2).bind fun t305 => (if a1 ≥ t305 then (spec_l4Hashed.j0 k l0 a1 l3 (rdOf ByteArray.empty l3 (ji13)) t305 (wrap64 (a2 - t305)) (wrap64 (a1 - t305))) else (spec_l4Hashed.j0 k l0 a1 l3 (rdOf ByteArray.empty l3 (ji13)) t305 t305 a1))) else (none)) else (none)) = some (r1, r2) := by first | (rw [hji13] at H; exact H) | (simp only [hji13] at H ⊢; exact H)
      have hji13w : (IntKind.i64.wrap ((l3.length : Int) - 1)) = ji13 := (i64_w _).trans hji13
      by_cases c14 : 0 ≤ (ji13)
      rotate_left
      · rw [if_neg c14] at H; exact absurd H (by simp)
      rw [if_pos c14] at H
      have c14b0 : decide (0 ≤ (ji13)) = true := decide_eq_true c14
      clear c14
      by_cases c15 : (ji13) < (l3.length : Int)
      rotate_left
      · rw [if_neg c15] at H; exact absurd H (by simp)
      rw [if_pos c15] at H
      have c15b0 : decide ((ji13) < (l3.length : Int)) = true := decide_eq_true c15
      clear c15
      replace H := Option.bind_eq_some_iff.mp H
      obtain ⟨t305, A160, H⟩ := H
      have A16 := Aside0.mk A160
      clear A160
      have HC17 := Aside0.mk H
      clear H
      have p304 : 0 ≤ ((ji13) : Int) := od_
      have q304 : (ji13) < (l3.length : Int) := od_
      obtain ⟨ad304, e304, hx304_0⟩ := Kd.at_string HR3.out (ji13) p304 q304
      cases e304
      replace p304 := eq_true p304
      replace q304 := eq_true q304
      go_enter Try.func103, Try.ntmps103
      go_upto_if 41 with (first | ((with_reducible refine gate_callee (f := 92) rfl ?_); refine gl_ (some 36) Try.func92 #[.int .i64 a2] rfl al_ ?_; (with_reducible refine (spec_l4Half.calls k a2 t305 _ A16.out).mono ?_); rintro e w' ⟨rfl, ⟨nd, rfl⟩⟩; refine ⟨_, rfl, ?_⟩))
      (try simp only [Act.put, sa_, sz_, ss_])
      go_cut [12, 13] (fun v12 v13 wc => ∃ (kq : Nat) (x12_16 : Int) (x13_16 : Int), v12 = .int .i64 x12_16 ∧ v13 = .int .i64 x13_16 ∧ Aside0 (spec_l4Hashed.j0 kq l0 a1 l3 (rdOf ByteArray.empty l3 (ji13)) t305 x12_16 x13_16 = some (r1, r2)) ∧ Aside0 (kq ≤ k) ∧ Aside0 (Below w.heap.size w wc))
      case first =>
       have H := HC17.out
       clear HC17
       by_cases c18 : a1 ≥ t305
       rotate_left
       · rw [if_neg c18] at H
         have c18b0 : decide (t305 ≤ a1) = false := decide_eq_false c18
         clear c18
         (first | rw [c18b0] | (simp only [i64_w, i32_w]; rw [c18b0]) | skip)
         have H' := Aside0.mk H
         clear H
         go_wp2
         go_meet
         case rel => exact ⟨_, (t305), (a1), rs_, rs_, H', ⟨by first | omega | exact Nat.le_refl _⟩, ⟨be_ HB.out⟩⟩
       rw [if_pos c18] at H
       have c18b0 : decide (t305 ≤ a1) = true := decide_eq_true c18
       clear c18
       (first | rw [c18b0] | (simp only [i64_w, i32_w]; rw [c18b0]) | skip)
       have H' := Aside0.mk H
       clear H
       go_wp2
       go_meet
       case rel => exact ⟨_, (wrap64 (a2 - t305)), (wrap64 (a1 - t305)), rs_, rs_, H', ⟨by first | omega | exact Nat.le_refl _⟩, ⟨be_ HB.out⟩⟩
      case rest =>
       clear HC17
       try clear c1
       try clear p2
       try clear c3
       try clear p3
       try clear q3
       try clear hx3
       try clear c5
       try clear c5b0
       try clear p6
       try clear hcv6
       try clear hcv7
       try clear c9
       try clear c10
       try clear c10b0
       try clear c10b1
       try clear c10b2
       try clear c14
       try clear c14b0
       try clear c15
       try clear c15b0
       try clear c18
       try clear c18b0
       try clear hx304_0
       try clear p304
       try clear q304
       obtain ⟨kq, x12_16, x13_16, rfl, rfl, HA, HJ16, HB⟩ := hcut
       cases kq with
       | zero => exact absurd HA.out (by simp [spec_l4Hashed.j0])
       | succ kj16 =>
        have H := HA.out
        clear HA
        simp only [spec_l4Hashed.j0] at H
        obtain ⟨ji19, hji19⟩ : ∃ j_ : Int, (wrap64 ((l3.length : Int) - 1)) = j_ := ⟨_, rfl⟩
        (try clear hji13w); (try clear hji13)
        replace H : (if 0 ≤ (ji19) then (if (ji19) ≤ (l3.length : Int) then ((spec_l4Hashed.f kj16 l0 x13_16 x12_16 (l3.take ((ji19) : Int).toNat)).bind fun bt307 => (if bt307.2 = true then (if 0 ≤ (wrap64 ((bt307.1.length : Int) - 1)) then (if (wrap64 ((bt307.1.length : Int) - 1)) < (bt307.1.length : Int) then (if (rdOf ByteArray.empty bt307.1 (wrap64 ((bt307.1.length : Int) - 1))).size ≤ 9223372036854775807 then ((spec_Digest.f kj16 (bytesOf (rdOf ByteArray.empty bt307.1 (wrap64 ((bt307.1.length : Int) - 1))))).bind fun t319 => (if a1 < t305 then ((spec_l4Node.f t319 (rdOf ByteArray.empty l3 (ji13))).bind fun t320 => (if bt307.1.length < 8796093022208 then (some ((bt307.1 ++ [strOfNums t320]), true)) else (none))) else ((spec_l4Node.f (rdOf ByteArray.empty l3 (ji13)) t319).bind fun t326 => (if bt307.1.length < 8796093022208 then (some ((bt307.1 ++ [strOfNums t326]), true)) else (none))))) else (none)) else (none)) else (none)) else (some ((([] : List ByteArray)), false)))) else (none)) else (none)) = some (r1, r2) := by first | (rw [hji19] at H; exact H) | (simp only [hji19] at H ⊢; exact H)
        have hji19w : (IntKind.i64.wrap ((l3.length : Int) - 1)) = ji19 := (i64_w _).trans hji19
        by_cases c20 : 0 ≤ (ji19)
        rotate_left
        · rw [if_neg c20] at H; exact absurd H (by simp)
        rw [if_pos c20] at H
        have c20b0 := eq_true c20
        have c20b1 : decide (0 ≤ (ji19)) = true := decide_eq_true c20
        clear c20
        by_cases c21 : (ji19) ≤ (l3.length : Int)
        rotate_left
        · rw [if_neg c21] at H; exact absurd H (by simp)
        rw [if_pos c21] at H
        have c21b0 := eq_true c21
        have c21b1 : decide ((ji19) ≤ (l3.length : Int)) = true := decide_eq_true c21
        clear c21
        replace H := Option.bind_eq_some_iff.mp H
        obtain ⟨⟨t307, t308⟩, A220, H⟩ := H; try dsimp only at H
        have A22 := Aside0.mk A220
        clear A220
        by_cases c23 : t308 = true
        · subst c23
          rw [if_pos rfl] at H
          obtain ⟨ji24, hji24⟩ : ∃ j_ : Int, (wrap64 ((t307.length : Int) - 1)) = j_ := ⟨_, rfl⟩
          replace H : (if 0 ≤ (ji24) then (if (ji24) < (t307.length : Int) then (if (rdOf ByteArray.empty t307 (ji24)).size ≤ 9223372036854775807 then ((spec_Digest.f kj16 (bytesOf (rdOf ByteArray.empty t307 (ji24)))).bind fun t319 => (if a1 < t305 then ((spec_l4Node.f t319 (rdOf ByteArray.empty l3 (ji13))).bind fun t320 => (if t307.length < 8796093022208 then (some ((t307 ++ [strOfNums t320]), true)) else (none))) else ((spec_l4Node.f (rdOf ByteArray.empty l3 (ji13)) t319).bind fun t326 => (if t307.length < 8796093022208 then (some ((t307 ++ [strOfNums t326]), true)) else (none))))) else (none)) else (none)) else (none)) = some (r1, r2) := by first | (rw [hji24] at H; exact H) | (simp only [hji24] at H ⊢; exact H)
          (try rw [hji24] at A22)
          have hji24w : (IntKind.i64.wrap ((t307.length : Int) - 1)) = ji24 := (i64_w _).trans hji24
          by_cases c25 : 0 ≤ (ji24)
          rotate_left
          · rw [if_neg c25] at H; exact absurd H (by simp)
          rw [if_pos c25] at H
          have c25b0 : decide (0 ≤ (ji24)) = true := decide_eq_true c25
          clear c25
          by_cases c26 : (ji24) < (t307.length : Int)
          rotate_left
          · rw [if_neg c26] at H; exact absurd H (by simp)
          rw [if_pos c26] at H
          have c26b0 : decide ((ji24) < (t307.length : Int)) = true := decide_eq_true c26
          clear c26
          by_cases c27 : (rdOf ByteArray.empty t307 (ji24)).size ≤ 9223372036854775807
          rotate_left
          · rw [if_neg c27] at H; exact absurd H (by simp)
          rw [if_pos c27] at H
          have c27b0 := eq_true c27
          have c27b1 : decide ((rdOf ByteArray.empty t307 (ji24)).size ≤ 9223372036854775807) = true := decide_eq_true c27
          try have c27b2 : (9223372036854775807 < (rdOf ByteArray.empty t307 (ji24)).size) = False := eq_false (Nat.not_lt.2 c27)
          clear c27
          obtain ⟨y315, hy315⟩ : ∃ y_ : List Int, y_ = (bytesOf (rdOf ByteArray.empty t307 (ji24))) := ⟨_, rfl⟩
          replace H : ((spec_Digest.f kj16 y315).bind fun t319 => (if a1 < t305 then ((spec_l4Node.f t319 (rdOf ByteArray.empty l3 (ji13))).bind fun t320 => (if t307.length < 8796093022208 then (some ((t307 ++ [strOfNums t320]), true)) else (none))) else ((spec_l4Node.f (rdOf ByteArray.empty l3 (ji13)) t319).bind fun t326 => (if t307.length < 8796093022208 then (some ((t307 ++ [strOfNums t326]), true)) else (none))))) = some (r1, r2) := ry_ hy315 H
          have Ny315 := Aside0.mk hy315
          clear hy315
          replace H := Option.bind_eq_some_iff.mp H
          obtain ⟨t319, A280, H⟩ := H
          have A28 := Aside0.mk A280
          clear A280
          by_cases c29 : a1 < t305
          · rw [if_pos c29] at H
            have c29b0 : decide (a1 < t305) = true := decide_eq_true c29
            clear c29
            replace H := Option.bind_eq_some_iff.mp H
            obtain ⟨t320, A300, H⟩ := H
            have A30 := Aside0.mk A300
            clear A300
            by_cases c31 : t307.length < 8796093022208
            rotate_left
            · rw [if_neg c31] at H; exact absurd H (by simp)
            rw [if_pos c31] at H
            have LMc31 := Aside0.mk c31
            clear c31
            obtain ⟨y323, hy323⟩ : ∃ y_ : List ByteArray, y_ = (t307 ++ [strOfNums t320]) := ⟨_, rfl⟩
            replace H : (some (y323, true)) = some (r1, r2) := ry_ hy323 H
            have Ny323 := Aside0.mk hy323
            clear hy323
            simp only [Option.some.injEq, Prod.mk.injEq] at H
            obtain ⟨rfl, rfl⟩ := H
            obtain ⟨i032, hi032, _, hsz32, _⟩ := info_parts info9
            obtain ⟨hcut32, hA32, hC32⟩ := print_take_of (P := Try.prog) Value.string (⟨#[]⟩ : ByteArray) 27 9 .i64 Try.underlying27 hi032 hsz32 (some ad304) c3 l3 (ji19) od_ od_ HC3.out
            have HR306 := q_ (Kd.C_of_reads (h1 := fun _ => rfl) (hA32 _ (Kd.reads_of_C HR3.out)))
            have HC306 := Aside0.mk hC32
            clear hA32 hC32 hi032 hsz32
            go_wp2_with (first | ((with_reducible refine gate_callee (f := 103) rfl ?_); refine gl_ (some 57) Try.func103 #[.slice A0 l0.length c0, .int .i64 x13_16, .int .i64 x12_16, .slice (some ad304) (l3.take ((ji19) : Int).toNat).length c3] rfl (by (try simp only [List.map_toArray, List.map_cons, List.map_nil]); first | done | (rw [show (l3.take ((ji19) : Int).toNat).length = (ji19).toNat from (by rw [List.length_take]; have h_ : ((ji19) : Int) ≤ (l3.length : Int) := od_; omega)] <;> rfl) | (simp only [hji19]; rfl) | rfl | (simp only [List.length_drop, List.length_take]; rfl)) ?_; (with_reducible refine (ih kj16 (by have := HJ16.out; omega) _ _ l0 x13_16 x12_16 _ _ (l3.take ((ji19) : Int).toNat) t307 true _ ?side1 ?side2 ?side3 ?side4 A22.out).mono ?_); (case side1 => exact kc_ (Kd.C_below HR0.out HB.out)); (case side2 => exact HC0.out); (case side3 => exact kc_ (Kd.C_below HR306.out HB.out)); (case side4 => exact HC306.out); rintro e w33 ⟨v309, rfl, ho0, hb⟩; refine ⟨_, rfl, ?_⟩; have HO310 := q_ (Kd.R_lower ho0 (below_size (be_ HB.out))); replace HB := q_ (below_step (be_ HB.out) hb); (try clear hb); (try clear ho0); obtain ⟨Ao34, co34, eo34⟩ := Kd.R_slice HO310.out; subst eo34; have p314 : 0 ≤ ((ji24) : Int) := od_; have q314 : (ji24) < (t307.length : Int) := od_; obtain ⟨ad314, e314, hx314_0⟩ := Kd.at_string (Kd.R_reads' HO310.out).2.2 (ji24) p314 q314; cases e314; replace p314 := eq_true p314; replace q314 := eq_true q314) | ((with_reducible refine gate_dst (N := 69) rfl ?_); refine Kd.conv_event rfl 9 22 5 _ (rdOf ByteArray.empty t307 (ji24)) y315 rfl rfl Try.underlying9 Try.underlying22 Try.underlying5 Ny315.out od_ ?_; intro g318 c318 w35 hr_ hc_ hb; replace HO310 := q_ (Kd.R_below (kr_ HO310.out) hb); replace HB := q_ (below_step (be_ HB.out) hb); have HR318 := q_ (hr_); have HC318 := q_ (hc_); clear hb hr_ hc_) | ((with_reducible refine gate_callee (f := 53) rfl ?_); refine gl_ (some 70) Try.func53 #[.slice (some ⟨g318, 0, none⟩) y315.length c318] rfl al_ ?_; (with_reducible refine (spec_Digest.calls kj16 _ _ y315 t319 _ ?side1 ?side2 A28.out).mono ?_); (case side1 => repeat (first | exact (by repeat (first | (with_reducible exact HR318.out) | (with_reducible refine Kd.C_alloc ?_ _) | (with_reducible refine Kd.C_drewN ?_ _) | (with_reducible refine Kd.C_drew ?_) | exact HR318.out)) | (with_reducible refine Kd.C_alloc ?_ _) | (with_reducible refine Kd.C_drewN ?_ _) | (with_reducible refine Kd.C_drew ?_))); (case side2 => exact HC318.out); rintro e w36 ⟨rfl, hb⟩; refine ⟨_, rfl, ?_⟩; replace HO310 := q_ (Kd.R_below (kr_ HO310.out) hb); replace HR318 := q_ (Kd.C_below (by repeat (first | (with_reducible exact HR318.out) | (with_reducible refine Kd.C_alloc ?_ _) | (with_reducible refine Kd.C_drewN ?_ _) | (with_reducible refine Kd.C_drew ?_) | exact HR318.out)) hb); replace HB := q_ (below_step (be_ HB.out) hb); (try clear hb)) | ((with_reducible refine gate_callee (f := 125) rfl ?_); refine gl_ (some 77) Try.func125 #[.string t319, .string (rdOf ByteArray.empty l3 (ji13))] rfl (by (try simp only [List.map_toArray, List.map_cons, List.map_nil]); first | done | (simp only [hji13]; rfl) | rfl | (simp only [List.length_drop, List.length_take]; rfl)) ?_; (with_reducible refine (spec_l4Node.calls t319 (rdOf ByteArray.empty l3 (ji13)) t320 _ A30.out).mono ?_); rintro e w37 ⟨v321, rfl, ho0, hb⟩; refine ⟨_, rfl, ?_⟩; replace HO310 := q_ (Kd.R_below (kr_ HO310.out) hb); have HO322 := q_ (Kd.R_lower ho0 (below_size (be_ HB.out))); replace HR318 := q_ (Kd.C_below (by repeat (first | (with_reducible exact HR318.out) | (with_reducible refine Kd.C_alloc ?_ _) | (with_reducible refine Kd.C_drewN ?_ _) | (with_reducible refine Kd.C_drew ?_) | exact HR318.out)) hb); replace HB := q_ (below_step (be_ HB.out) hb); (try clear hb); (try clear ho0); have hcv38 := own_string (P := Try.prog) Try.underlying22 Try.underlying5 Try.underlying9 (Kd.own_of_R HO322.out)) | ((with_reducible refine gate_builtin (b := .append) (xs := #[.tmp 74, .tmp 79]) rfl ?_); at_builtin; refine Kd.R_append Kd.string (w0 := w) w.heap.size rfl (.tmp 74) (.tmp 79) 27 9 (.string ⟨#[]⟩) 16 rfl Try.underlying27 info9 rfl (by decide) (by omega) (.slice (some ad314) t307.length co34) t307 (strOfNums t320) [.string (strOfNums t320)] (fun _ => True) (fun _ => False) rfl rfl ?aP (fun _ hk => hk.elim) ?aF ?aO ?aB ?aS ?aL ?_; (case aP => exact rfl); (case aB => exact (be_ HB.out)); (case aF => exact (fun _ _ => trivial)); (case aO => exact (kr_ HO310.out)); (case aS => exact (below_size (be_ HB.out))); (case aL => have := LMc31.out; omega); intro v324 w39 ho hb hg hat; rw [← Ny323.out] at ho; have n0_ := q_ (Kd.R_over' (kr_ HO322.out) (Kd.R_typed (kr_ HO310.out)) (by decide) hg); have n1_ := q_ (hb); have n2_ := q_ (ho); clear HO322; clear HB; clear HO310; have HO322 := n0_; have HB := n1_; have HO325 := n2_; clear n0_ n1_ n2_; clear ho hb hg hat))
            go_ret2
            exact ⟨_, by first | rfl | (simp [errW_none, errW_some] <;> rfl) | (simp only [← hji13, ← hji19, ← hji24]; first | rfl | (simp [errW_none, errW_some] <;> rfl)) | (simp [*, errW_none, errW_some] <;> rfl), by (with_reducible repeat (first | apply Kd.R_alloc | apply Kd.R_drewN | apply Kd.R_drew)); exact HO325.out, be_ HB.out⟩
          rw [if_neg c29] at H
          have c29b0 : decide (a1 < t305) = false := decide_eq_false c29
          clear c29
          replace H := Option.bind_eq_some_iff.mp H
          obtain ⟨t326, A400, H⟩ := H
          have A40 := Aside0.mk A400
          clear A400
          by_cases c41 : t307.length < 8796093022208
          rotate_left
          · rw [if_neg c41] at H; exact absurd H (by simp)
          rw [if_pos c41] at H
          have LMc41 := Aside0.mk c41
          clear c41
          obtain ⟨y329, hy329⟩ : ∃ y_ : List ByteArray, y_ = (t307 ++ [strOfNums t326]) := ⟨_, rfl⟩
          replace H : (some (y329, true)) = some (r1, r2) := ry_ hy329 H
          have Ny329 := Aside0.mk hy329
          clear hy329
          simp only [Option.some.injEq, Prod.mk.injEq] at H
          obtain ⟨rfl, rfl⟩ := H
          obtain ⟨i042, hi042, _, hsz42, _⟩ := info_parts info9
          obtain ⟨hcut42, hA42, hC42⟩ := print_take_of (P := Try.prog) Value.string (⟨#[]⟩ : ByteArray) 27 9 .i64 Try.underlying27 hi042 hsz42 (some ad304) c3 l3 (ji19) od_ od_ HC3.out
          have HR306 := q_ (Kd.C_of_reads (h1 := fun _ => rfl) (hA42 _ (Kd.reads_of_C HR3.out)))
          have HC306 := Aside0.mk hC42
          clear hA42 hC42 hi042 hsz42
          go_wp2_with (first | ((with_reducible refine gate_callee (f := 103) rfl ?_); refine gl_ (some 57) Try.func103 #[.slice A0 l0.length c0, .int .i64 x13_16, .int .i64 x12_16, .slice (some ad304) (l3.take ((ji19) : Int).toNat).length c3] rfl (by (try simp only [List.map_toArray, List.map_cons, List.map_nil]); first | done | (rw [show (l3.take ((ji19) : Int).toNat).length = (ji19).toNat from (by rw [List.length_take]; have h_ : ((ji19) : Int) ≤ (l3.length : Int) := od_; omega)] <;> rfl) | (simp only [hji19]; rfl) | rfl | (simp only [List.length_drop, List.length_take]; rfl)) ?_; (with_reducible refine (ih kj16 (by have := HJ16.out; omega) _ _ l0 x13_16 x12_16 _ _ (l3.take ((ji19) : Int).toNat) t307 true _ ?side1 ?side2 ?side3 ?side4 A22.out).mono ?_); (case side1 => exact kc_ (Kd.C_below HR0.out HB.out)); (case side2 => exact HC0.out); (case side3 => exact kc_ (Kd.C_below HR306.out HB.out)); (case side4 => exact HC306.out); rintro e w43 ⟨v309, rfl, ho0, hb⟩; refine ⟨_, rfl, ?_⟩; have HO310 := q_ (Kd.R_lower ho0 (below_size (be_ HB.out))); replace HB := q_ (below_step (be_ HB.out) hb); (try clear hb); (try clear ho0); obtain ⟨Ao44, co44, eo44⟩ := Kd.R_slice HO310.out; subst eo44; have p314 : 0 ≤ ((ji24) : Int) := od_; have q314 : (ji24) < (t307.length : Int) := od_; obtain ⟨ad314, e314, hx314_0⟩ := Kd.at_string (Kd.R_reads' HO310.out).2.2 (ji24) p314 q314; cases e314; replace p314 := eq_true p314; replace q314 := eq_true q314) | ((with_reducible refine gate_dst (N := 69) rfl ?_); refine Kd.conv_event rfl 9 22 5 _ (rdOf ByteArray.empty t307 (ji24)) y315 rfl rfl Try.underlying9 Try.underlying22 Try.underlying5 Ny315.out od_ ?_; intro g318 c318 w45 hr_ hc_ hb; replace HO310 := q_ (Kd.R_below (kr_ HO310.out) hb); replace HB := q_ (below_step (be_ HB.out) hb); have HR318 := q_ (hr_); have HC318 := q_ (hc_); clear hb hr_ hc_) | ((with_reducible refine gate_callee (f := 53) rfl ?_); refine gl_ (some 70) Try.func53 #[.slice (some ⟨g318, 0, none⟩) y315.length c318] rfl al_ ?_; (with_reducible refine (spec_Digest.calls kj16 _ _ y315 t319 _ ?side1 ?side2 A28.out).mono ?_); (case side1 => repeat (first | exact (by repeat (first | (with_reducible exact HR318.out) | (with_reducible refine Kd.C_alloc ?_ _) | (with_reducible refine Kd.C_drewN ?_ _) | (with_reducible refine Kd.C_drew ?_) | exact HR318.out)) | (with_reducible refine Kd.C_alloc ?_ _) | (with_reducible refine Kd.C_drewN ?_ _) | (with_reducible refine Kd.C_drew ?_))); (case side2 => exact HC318.out); rintro e w46 ⟨rfl, hb⟩; refine ⟨_, rfl, ?_⟩; replace HO310 := q_ (Kd.R_below (kr_ HO310.out) hb); replace HR318 := q_ (Kd.C_below (by repeat (first | (with_reducible exact HR318.out) | (with_reducible refine Kd.C_alloc ?_ _) | (with_reducible refine Kd.C_drewN ?_ _) | (with_reducible refine Kd.C_drew ?_) | exact HR318.out)) hb); replace HB := q_ (below_step (be_ HB.out) hb); (try clear hb)) | ((with_reducible refine gate_callee (f := 125) rfl ?_); refine gl_ (some 84) Try.func125 #[.string (rdOf ByteArray.empty l3 (ji13)), .string t319] rfl (by (try simp only [List.map_toArray, List.map_cons, List.map_nil]); first | done | (simp only [hji13]; rfl) | rfl | (simp only [List.length_drop, List.length_take]; rfl)) ?_; (with_reducible refine (spec_l4Node.calls (rdOf ByteArray.empty l3 (ji13)) t319 t326 _ A40.out).mono ?_); rintro e w47 ⟨v327, rfl, ho0, hb⟩; refine ⟨_, rfl, ?_⟩; replace HO310 := q_ (Kd.R_below (kr_ HO310.out) hb); have HO328 := q_ (Kd.R_lower ho0 (below_size (be_ HB.out))); replace HR318 := q_ (Kd.C_below (by repeat (first | (with_reducible exact HR318.out) | (with_reducible refine Kd.C_alloc ?_ _) | (with_reducible refine Kd.C_drewN ?_ _) | (with_reducible refine Kd.C_drew ?_) | exact HR318.out)) hb); replace HB := q_ (below_step (be_ HB.out) hb); (try clear hb); (try clear ho0); have hcv48 := own_string (P := Try.prog) Try.underlying22 Try.underlying5 Try.underlying9 (Kd.own_of_R HO328.out)) | ((with_reducible refine gate_builtin (b := .append) (xs := #[.tmp 81, .tmp 86]) rfl ?_); at_builtin; refine Kd.R_append Kd.string (w0 := w) w.heap.size rfl (.tmp 81) (.tmp 86) 27 9 (.string ⟨#[]⟩) 16 rfl Try.underlying27 info9 rfl (by decide) (by omega) (.slice (some ad314) t307.length co44) t307 (strOfNums t326) [.string (strOfNums t326)] (fun _ => True) (fun _ => False) rfl rfl ?aP (fun _ hk => hk.elim) ?aF ?aO ?aB ?aS ?aL ?_; (case aP => exact rfl); (case aB => exact (be_ HB.out)); (case aF => exact (fun _ _ => trivial)); (case aO => exact (kr_ HO310.out)); (case aS => exact (below_size (be_ HB.out))); (case aL => have := LMc41.out; omega); intro v330 w49 ho hb hg hat; rw [← Ny329.out] at ho; have n0_ := q_ (Kd.R_over' (kr_ HO328.out) (Kd.R_typed (kr_ HO310.out)) (by decide) hg); have n1_ := q_ (hb); have n2_ := q_ (ho); clear HO328; clear HB; clear HO310; have HO328 := n0_; have HB := n1_; have HO331 := n2_; clear n0_ n1_ n2_; clear ho hb hg hat))
          go_ret2
          exact ⟨_, by first | rfl | (simp [errW_none, errW_some] <;> rfl) | (simp only [← hji13, ← hji19, ← hji24]; first | rfl | (simp [errW_none, errW_some] <;> rfl)) | (simp [*, errW_none, errW_some] <;> rfl), by (with_reducible repeat (first | apply Kd.R_alloc | apply Kd.R_drewN | apply Kd.R_drew)); exact HO331.out, be_ HB.out⟩
        · replace c23 := Bool.eq_false_iff.mpr c23
          subst c23
          rw [if_neg (show ¬ (false = true) by decide)] at H
          obtain ⟨y311, hy311⟩ : ∃ y_ : List ByteArray, y_ = (([] : List ByteArray)) := ⟨_, rfl⟩
          replace H : (some (y311, false)) = some (r1, r2) := ry_ hy311 H
          have Ny311 := Aside0.mk hy311
          clear hy311
          simp only [Option.some.injEq, Prod.mk.injEq] at H
          obtain ⟨rfl, rfl⟩ := H
          obtain ⟨i050, hi050, _, hsz50, _⟩ := info_parts info9
          obtain ⟨hcut50, hA50, hC50⟩ := print_take_of (P := Try.prog) Value.string (⟨#[]⟩ : ByteArray) 27 9 .i64 Try.underlying27 hi050 hsz50 (some ad304) c3 l3 (ji19) od_ od_ HC3.out
          have HR306 := q_ (Kd.C_of_reads (h1 := fun _ => rfl) (hA50 _ (Kd.reads_of_C HR3.out)))
          have HC306 := Aside0.mk hC50
          clear hA50 hC50 hi050 hsz50
          go_wp2_with (first | ((with_reducible refine gate_callee (f := 103) rfl ?_); refine gl_ (some 57) Try.func103 #[.slice A0 l0.length c0, .int .i64 x13_16, .int .i64 x12_16, .slice (some ad304) (l3.take ((ji19) : Int).toNat).length c3] rfl (by (try simp only [List.map_toArray, List.map_cons, List.map_nil]); first | done | (rw [show (l3.take ((ji19) : Int).toNat).length = (ji19).toNat from (by rw [List.length_take]; have h_ : ((ji19) : Int) ≤ (l3.length : Int) := od_; omega)] <;> rfl) | (simp only [hji19]; rfl) | rfl | (simp only [List.length_drop, List.length_take]; rfl)) ?_; (with_reducible refine (ih kj16 (by have := HJ16.out; omega) _ _ l0 x13_16 x12_16 _ _ (l3.take ((ji19) : Int).toNat) t307 false _ ?side1 ?side2 ?side3 ?side4 A22.out).mono ?_); (case side1 => exact kc_ (Kd.C_below HR0.out HB.out)); (case side2 => exact HC0.out); (case side3 => exact kc_ (Kd.C_below HR306.out HB.out)); (case side4 => exact HC306.out); rintro e w51 ⟨v309, rfl, ho0, hb⟩; refine ⟨_, rfl, ?_⟩; have HO310 := q_ (Kd.R_lower ho0 (below_size (be_ HB.out))); replace HB := q_ (below_step (be_ HB.out) hb); (try clear hb); (try clear ho0)) | ((with_reducible refine gate_dst (N := 62) rfl ?_); refine Kd.R_lit Kd.string _ 9 ?hg (N := 62) ?hd (xs := ([] : List ByteArray)) (inner := []) (ok := fun _ => True) (okp := fun _ => True) ?hr ?hp (fun _ hk => hk) trivial (Below.refl _ _) (Nat.le_refl _) (by simp) ?_; (case hd => rfl); (case hg => rfl); (case hr => first | (go_simp; done) | (go_simp; rfl)); (case hp => exact (Reps.none _ _)); intro v312 w52 ho53 hb hg_ hnew_; clear hg_ hnew_; (first | rw [← Ny311.out] at ho53 | (simp only [Int.reduceToNat] at ho53; rw [← Ny311.out] at ho53)); have HO313 := q_ (Kd.R_lower (Kd.R_new' ho53 (Kd.R_lt (kr_ HO310.out))) (below_size (be_ HB.out))); replace HO310 := q_ (Kd.R_elder' (kr_ HO310.out) (Kd.R_base ho53) hb); replace HB := q_ (below_step (be_ HB.out) hb); clear hb ho53))
          go_ret2
          exact ⟨_, by first | rfl | (simp [errW_none, errW_some] <;> rfl) | (simp only [← hji13, ← hji19]; first | rfl | (simp [errW_none, errW_some] <;> rfl)) | (simp [*, errW_none, errW_some] <;> rfl), by (with_reducible repeat (first | apply Kd.R_alloc | apply Kd.R_drewN | apply Kd.R_drew)); exact Kd.R_mono HO313.out (fun _ hk => trivial), be_ HB.out⟩

/-! ###  spec_l4All: function 62 -/
def spec_l4All.f (k : Nat) (l0 : List Int) (a1 : Int) (a2 : Int) (l3 : List ByteArray) : Option (List ByteArray × Bool) := (spec_l4Hashed.f k l0 a1 a2 l3).bind fun bt332 => (if bt332.2 = true then (if 0 ≤ (wrap64 ((bt332.1.length : Int) - 1)) then (if (wrap64 ((bt332.1.length : Int) - 1)) < (bt332.1.length : Int) then (if (rdOf ByteArray.empty bt332.1 (wrap64 ((bt332.1.length : Int) - 1))).size ≤ 9223372036854775807 then ((spec_Digest.f k (bytesOf (rdOf ByteArray.empty bt332.1 (wrap64 ((bt332.1.length : Int) - 1))))).bind fun t341 => ((spec_l4Top.f k a2 t341).bind fun t342 => (if bt332.1.length < 8796093022208 then (some ((bt332.1 ++ [strOfNums t342]), true)) else (none)))) else (none)) else (none)) else (none)) else (some ((([] : List ByteArray)), false)))
set_option maxHeartbeats 8000000 in
set_option maxRecDepth 100000 in
theorem spec_l4All.calls (k : Nat) (A0 : Option Addr) (c0 : Nat) (l0 : List Int) (a1 : Int) (a2 : Int) (A3 : Option Addr) (c3 : Nat) (l3 : List ByteArray) (r1 : List ByteArray) (r2 : Bool) (w : World) (hr0 : Kd.C (Kd.int .u8) w A0 l0.length l0) (hc0 : l0.length ≤ c0) (hr3 : Kd.C Kd.string w A3 l3.length l3) (hc3 : l3.length ≤ c3) (h : spec_l4All.f k l0 a1 a2 l3 = some (r1, r2)) :
  Calls Try.prog 62 #[.slice A0 l0.length c0, .int .i64 a1, .int .i64 a2, .slice A3 l3.length c3] w fun e w' => ∃ v0_ : Value, e = .returned (.tuple #[v0_, .bool r2]) ∧ Kd.R Kd.string 9 w' w.heap.size (fun _ => True) v0_ r1 ∧ Below w.heap.size w w' := by
  have HR0 := Aside0.mk hr0
  have HC0 := Aside0.mk hc0
  clear hr0 hc0
  have HR3 := Aside0.mk hr3
  have HC3 := Aside0.mk hc3
  clear hr3 hc3
  have HB := q_ (Below.refl w.heap.size w)
  have H : ((spec_l4Hashed.f k l0 a1 a2 l3).bind fun bt332 => (if bt332.2 = true then (if 0 ≤ (wrap64 ((bt332.1.length : Int) - 1)) then (if (wrap64 ((bt332.1.length : Int) - 1)) < (bt332.1.length : Int) then (if (rdOf ByteArray.empty bt332.1 (wrap64 ((bt332.1.length : Int) - 1))).size ≤ 9223372036854775807 then ((spec_Digest.f k (bytesOf (rdOf ByteArray.empty bt332.1 (wrap64 ((bt332.1.length : Int) - 1))))).bind fun t341 => ((spec_l4Top.f k a2 t341).bind fun t342 => (if bt332.1.length < 8796093022208 then (some ((bt332.1 ++ [strOfNums t342]), true)) else (none)))) else (none)) else (none)) else (none)) else (some ((([] : List ByteArray)), false)))) = some (r1, r2) := h
  clear h
  replace H := Option.bind_eq_some_iff.mp H
  obtain ⟨⟨t332, t333⟩, A50, H⟩ := H; try dsimp only at H
  have A5 := Aside0.mk A50
  clear A50
  by_cases c6 : t333 = true
  · subst c6
    rw [if_pos rfl] at H
    obtain ⟨ji7, hji7⟩ : ∃ j_ : Int, (wrap64 ((t332.length : Int) - 1)) = j_ := ⟨_, rfl⟩
    replace H : (if 0 ≤ (ji7) then (if (ji7) < (t332.length : Int) then (if (rdOf ByteArray.empty t332 (ji7)).size ≤ 9223372036854775807 then ((spec_Digest.f k (bytesOf (rdOf ByteArray.empty t332 (ji7)))).bind fun t341 => ((spec_l4Top.f k a2 t341).bind fun t342 => (if t332.length < 8796093022208 then (some ((t332 ++ [strOfNums t342]), true)) else (none)))) else (none)) else (none)) else (none)) = some (r1, r2) := by first | (rw [hji7] at H; exact H) | (simp only [hji7] at H ⊢; exact H)
    (try rw [hji7] at A5)
    have hji7w : (IntKind.i64.wrap ((t332.length : Int) - 1)) = ji7 := (i64_w _).trans hji7
    by_cases c8 : 0 ≤ (ji7)
    rotate_left
    · rw [if_neg c8] at H; exact absurd H (by simp)
    rw [if_pos c8] at H
    have c8b0 : decide (0 ≤ (ji7)) = true := decide_eq_true c8
    clear c8
    by_cases c9 : (ji7) < (t332.length : Int)
    rotate_left
    · rw [if_neg c9] at H; exact absurd H (by simp)
    rw [if_pos c9] at H
    have c9b0 : decide ((ji7) < (t332.length : Int)) = true := decide_eq_true c9
    clear c9
    by_cases c10 : (rdOf ByteArray.empty t332 (ji7)).size ≤ 9223372036854775807
    rotate_left
    · rw [if_neg c10] at H; exact absurd H (by simp)
    rw [if_pos c10] at H
    have c10b0 := eq_true c10
    have c10b1 : decide ((rdOf ByteArray.empty t332 (ji7)).size ≤ 9223372036854775807) = true := decide_eq_true c10
    try have c10b2 : (9223372036854775807 < (rdOf ByteArray.empty t332 (ji7)).size) = False := eq_false (Nat.not_lt.2 c10)
    clear c10
    obtain ⟨y337, hy337⟩ : ∃ y_ : List Int, y_ = (bytesOf (rdOf ByteArray.empty t332 (ji7))) := ⟨_, rfl⟩
    replace H : ((spec_Digest.f k y337).bind fun t341 => ((spec_l4Top.f k a2 t341).bind fun t342 => (if t332.length < 8796093022208 then (some ((t332 ++ [strOfNums t342]), true)) else (none)))) = some (r1, r2) := ry_ hy337 H
    have Ny337 := Aside0.mk hy337
    clear hy337
    replace H := Option.bind_eq_some_iff.mp H
    obtain ⟨t341, A110, H⟩ := H
    have A11 := Aside0.mk A110
    clear A110
    replace H := Option.bind_eq_some_iff.mp H
    obtain ⟨t342, A120, H⟩ := H
    have A12 := Aside0.mk A120
    clear A120
    by_cases c13 : t332.length < 8796093022208
    rotate_left
    · rw [if_neg c13] at H; exact absurd H (by simp)
    rw [if_pos c13] at H
    have LMc13 := Aside0.mk c13
    clear c13
    obtain ⟨y345, hy345⟩ : ∃ y_ : List ByteArray, y_ = (t332 ++ [strOfNums t342]) := ⟨_, rfl⟩
    replace H : (some (y345, true)) = some (r1, r2) := ry_ hy345 H
    have Ny345 := Aside0.mk hy345
    clear hy345
    simp only [Option.some.injEq, Prod.mk.injEq] at H
    obtain ⟨rfl, rfl⟩ := H
    go_enter Try.func62, Try.ntmps62
    go_wp2_with (first | ((with_reducible refine gate_callee (f := 103) rfl ?_); refine gl_ (some 17) Try.func103 #[.slice A0 l0.length c0, .int .i64 a1, .int .i64 a2, .slice A3 l3.length c3] rfl al_ ?_; (with_reducible refine (spec_l4Hashed.calls k _ _ l0 a1 a2 _ _ l3 t332 true _ ?side1 ?side2 ?side3 ?side4 A5.out).mono ?_); (case side1 => exact kc_ HR0.out); (case side2 => exact HC0.out); (case side3 => exact kc_ HR3.out); (case side4 => exact HC3.out); rintro e w14 ⟨v334, rfl, ho0, hb⟩; refine ⟨_, rfl, ?_⟩; have HO335 := q_ (Kd.R_lower ho0 (below_size (be_ HB.out))); replace HB := q_ (below_step (be_ HB.out) hb); (try clear hb); (try clear ho0); obtain ⟨Ao15, co15, eo15⟩ := Kd.R_slice HO335.out; subst eo15; have p336 : 0 ≤ ((ji7) : Int) := od_; have q336 : (ji7) < (t332.length : Int) := od_; obtain ⟨ad336, e336, hx336_0⟩ := Kd.at_string (Kd.R_reads' HO335.out).2.2 (ji7) p336 q336; cases e336; replace p336 := eq_true p336; replace q336 := eq_true q336) | ((with_reducible refine gate_dst (N := 31) rfl ?_); refine Kd.conv_event rfl 9 22 5 _ (rdOf ByteArray.empty t332 (ji7)) y337 rfl rfl Try.underlying9 Try.underlying22 Try.underlying5 Ny337.out od_ ?_; intro g340 c340 w16 hr_ hc_ hb; replace HO335 := q_ (Kd.R_below (kr_ HO335.out) hb); replace HB := q_ (below_step (be_ HB.out) hb); have HR340 := q_ (hr_); have HC340 := q_ (hc_); clear hb hr_ hc_) | ((with_reducible refine gate_callee (f := 53) rfl ?_); refine gl_ (some 32) Try.func53 #[.slice (some ⟨g340, 0, none⟩) y337.length c340] rfl al_ ?_; (with_reducible refine (spec_Digest.calls k _ _ y337 t341 _ ?side1 ?side2 A11.out).mono ?_); (case side1 => repeat (first | exact (by repeat (first | (with_reducible exact HR340.out) | (with_reducible refine Kd.C_alloc ?_ _) | (with_reducible refine Kd.C_drewN ?_ _) | (with_reducible refine Kd.C_drew ?_) | exact HR340.out)) | (with_reducible refine Kd.C_alloc ?_ _) | (with_reducible refine Kd.C_drewN ?_ _) | (with_reducible refine Kd.C_drew ?_))); (case side2 => exact HC340.out); rintro e w17 ⟨rfl, hb⟩; refine ⟨_, rfl, ?_⟩; replace HO335 := q_ (Kd.R_below (kr_ HO335.out) hb); replace HR340 := q_ (Kd.C_below (by repeat (first | (with_reducible exact HR340.out) | (with_reducible refine Kd.C_alloc ?_ _) | (with_reducible refine Kd.C_drewN ?_ _) | (with_reducible refine Kd.C_drew ?_) | exact HR340.out)) hb); replace HB := q_ (below_step (be_ HB.out) hb); (try clear hb)) | ((with_reducible refine gate_callee (f := 104) rfl ?_); refine gl_ (some 33) Try.func104 #[.int .i64 a2, .string t341] rfl al_ ?_; (with_reducible refine (spec_l4Top.calls k a2 t341 t342 _ A12.out).mono ?_); rintro e w18 ⟨v343, rfl, ho0, hb⟩; refine ⟨_, rfl, ?_⟩; replace HO335 := q_ (Kd.R_below (kr_ HO335.out) hb); have HO344 := q_ (Kd.R_lower ho0 (below_size (be_ HB.out))); replace HR340 := q_ (Kd.C_below (by repeat (first | (with_reducible exact HR340.out) | (with_reducible refine Kd.C_alloc ?_ _) | (with_reducible refine Kd.C_drewN ?_ _) | (with_reducible refine Kd.C_drew ?_) | exact HR340.out)) hb); replace HB := q_ (below_step (be_ HB.out) hb); (try clear hb); (try clear ho0); have hcv19 := own_string (P := Try.prog) Try.underlying22 Try.underlying5 Try.underlying9 (Kd.own_of_R HO344.out)) | ((with_reducible refine gate_builtin (b := .append) (xs := #[.tmp 23, .tmp 35]) rfl ?_); at_builtin; refine Kd.R_append Kd.string (w0 := w) w.heap.size rfl (.tmp 23) (.tmp 35) 27 9 (.string ⟨#[]⟩) 16 rfl Try.underlying27 info9 rfl (by decide) (by omega) (.slice (some ad336) t332.length co15) t332 (strOfNums t342) [.string (strOfNums t342)] (fun _ => True) (fun _ => False) rfl rfl ?aP (fun _ hk => hk.elim) ?aF ?aO ?aB ?aS ?aL ?_; (case aP => exact rfl); (case aB => exact (be_ HB.out)); (case aF => exact (fun _ _ => trivial)); (case aO => exact (kr_ HO335.out)); (case aS => exact (below_size (be_ HB.out))); (case aL => have := LMc13.out; omega); intro v346 w20 ho hb hg hat; rw [← Ny345.out] at ho; have n0_ := q_ (Kd.R_over' (kr_ HO344.out) (Kd.R_typed (kr_ HO335.out)) (by decide) hg); have n1_ := q_ (hb); have n2_ := q_ (ho); clear HO344; clear HB; clear HO335; have HO344 := n0_; have HB := n1_; have HO347 := n2_; clear n0_ n1_ n2_; clear ho hb hg hat))
    go_ret2
    exact ⟨_, by first | rfl | (simp [errW_none, errW_some] <;> rfl) | (simp only [← hji7]; first | rfl | (simp [errW_none, errW_some] <;> rfl)) | (simp [*, errW_none, errW_some] <;> rfl), by (with_reducible repeat (first | apply Kd.R_alloc | apply Kd.R_drewN | apply Kd.R_drew)); exact HO347.out, be_ HB.out⟩
  · replace c6 := Bool.eq_false_iff.mpr c6
    subst c6
    rw [if_neg (show ¬ (false = true) by decide)] at H
    obtain ⟨y348, hy348⟩ : ∃ y_ : List ByteArray, y_ = (([] : List ByteArray)) := ⟨_, rfl⟩
    replace H : (some (y348, false)) = some (r1, r2) := ry_ hy348 H
    have Ny348 := Aside0.mk hy348
    clear hy348
    simp only [Option.some.injEq, Prod.mk.injEq] at H
    obtain ⟨rfl, rfl⟩ := H
    go_enter Try.func62, Try.ntmps62
    go_wp2_with (first | ((with_reducible refine gate_callee (f := 103) rfl ?_); refine gl_ (some 17) Try.func103 #[.slice A0 l0.length c0, .int .i64 a1, .int .i64 a2, .slice A3 l3.length c3] rfl al_ ?_; (with_reducible refine (spec_l4Hashed.calls k _ _ l0 a1 a2 _ _ l3 t332 false _ ?side1 ?side2 ?side3 ?side4 A5.out).mono ?_); (case side1 => exact kc_ HR0.out); (case side2 => exact HC0.out); (case side3 => exact kc_ HR3.out); (case side4 => exact HC3.out); rintro e w21 ⟨v334, rfl, ho0, hb⟩; refine ⟨_, rfl, ?_⟩; have HO335 := q_ (Kd.R_lower ho0 (below_size (be_ HB.out))); replace HB := q_ (below_step (be_ HB.out) hb); (try clear hb); (try clear ho0)) | ((with_reducible refine gate_dst (N := 22) rfl ?_); refine Kd.R_lit Kd.string _ 9 ?hg (N := 22) ?hd (xs := ([] : List ByteArray)) (inner := []) (ok := fun _ => True) (okp := fun _ => True) ?hr ?hp (fun _ hk => hk) trivial (Below.refl _ _) (Nat.le_refl _) (by simp) ?_; (case hd => rfl); (case hg => rfl); (case hr => first | (go_simp; done) | (go_simp; rfl)); (case hp => exact (Reps.none _ _)); intro v349 w22 ho23 hb hg_ hnew_; clear hg_ hnew_; (first | rw [← Ny348.out] at ho23 | (simp only [Int.reduceToNat] at ho23; rw [← Ny348.out] at ho23)); have HO350 := q_ (Kd.R_lower (Kd.R_new' ho23 (Kd.R_lt (kr_ HO335.out))) (below_size (be_ HB.out))); replace HO335 := q_ (Kd.R_elder' (kr_ HO335.out) (Kd.R_base ho23) hb); replace HB := q_ (below_step (be_ HB.out) hb); clear hb ho23))
    go_ret2
    exact ⟨_, rf_, by (with_reducible repeat (first | apply Kd.R_alloc | apply Kd.R_drewN | apply Kd.R_drew)); exact Kd.R_mono HO350.out (fun _ hk => trivial), be_ HB.out⟩

/-! ###  spec_CheckPath: function 112 -/
def spec_CheckPath.j0 : Nat → Int → Int → List ByteArray → ByteArray → Bool → ByteArray → ByteArray → Option (Bool)
  | 0, _, _, _, _, _, _, _ => none
  | k + 1, x1, x2, x3, x4, x22, x352000, x352001 => if x22 = true then (some false) else ((spec_l4Leaf.f k x352000 x352001).bind fun t354 => ((spec_l4All.f k t354 x1 x2 x3).bind fun bt357 => (if bt357.2 = true then (if 0 ≤ (wrap64 ((bt357.1.length : Int) - 1)) then (if (wrap64 ((bt357.1.length : Int) - 1)) < (bt357.1.length : Int) then (if (rdOf ByteArray.empty bt357.1 (wrap64 ((bt357.1.length : Int) - 1))).size ≤ 9223372036854775807 then ((spec_Digest.f k (bytesOf (rdOf ByteArray.empty bt357.1 (wrap64 ((bt357.1.length : Int) - 1))))).bind fun t366 => (some (t366.toList == x4.toList))) else (none)) else (none)) else (none)) else (some false))))
def spec_CheckPath.f (k : Nat) (a0_0 : ByteArray) (a0_1 : ByteArray) (a1 : Int) (a2 : Int) (l3 : List ByteArray) (a4 : ByteArray) : Option (Bool) := (spec_l1In.f a2 1 60).bind fun t352 => (if t352 = true then ((spec_l1In.f a1 0 (wrap64 (a2 - 1))).bind fun t353 => (spec_CheckPath.j0 k a1 a2 l3 a4 (!t353) a0_0 a0_1)) else (spec_CheckPath.j0 k a1 a2 l3 a4 true a0_0 a0_1))
set_option maxHeartbeats 8000000 in
set_option maxRecDepth 100000 in
theorem spec_CheckPath.calls (k : Nat) (a0_0 : ByteArray) (a0_1 : ByteArray) (a1 : Int) (a2 : Int) (A3 : Option Addr) (c3 : Nat) (l3 : List ByteArray) (a4 : ByteArray) (r : Bool) (w : World) (hr3 : Kd.C Kd.string w A3 l3.length l3) (hc3 : l3.length ≤ c3) (h : spec_CheckPath.f k a0_0 a0_1 a1 a2 l3 a4 = some r) :
  Calls Try.prog 112 #[.agg #[.string a0_0, .string a0_1], .int .i64 a1, .int .i64 a2, .slice A3 l3.length c3, .string a4] w fun e w' => e = .returned (.bool r) ∧ Below w.heap.size w w' := by
  have hu26 := Try.underlying26
  have HR3 := Aside0.mk hr3
  have HC3 := Aside0.mk hc3
  clear hr3 hc3
  have HB := q_ (Below.refl w.heap.size w)
  have H : ((spec_l1In.f a2 1 60).bind fun t352 => (if t352 = true then ((spec_l1In.f a1 0 (wrap64 (a2 - 1))).bind fun t353 => (spec_CheckPath.j0 k a1 a2 l3 a4 (!t353) a0_0 a0_1)) else (spec_CheckPath.j0 k a1 a2 l3 a4 true a0_0 a0_1))) = some r := h
  clear h
  have HC6 := Aside0.mk H
  clear H
  go_enter Try.func112, Try.ntmps112
  go_upto_region 1 with (first | ((with_reducible refine gate_dst (N := 5) rfl ?_); (try (refine gate_guard (by rfl) ?_; dsimp only)); refine box_event rfl (N := 5) rfl (cs := #[.string a0_0, .string a0_1]) (t := 26) hr_ ?_; intro gb351 hg w7 hbox hb; have BK351 := q_ (hbox); have GW351 := q_ ((by rw [hg]; exact (below_size (be_ HB.out)) : w.heap.size ≤ gb351)); have GE351 := q_ ((by rw [hg]; exact (below_size (be_ HB.out)) : w.heap.size ≤ gb351)); replace HB := q_ (below_step (be_ HB.out) hb); clear hb hbox hg))
  (try simp only [Act.put, sa_, sz_, ss_])
  go_cut [22] (fun v22 wc => ∃ (kq : Nat) (x22_5 : Bool), v22 = .bool x22_5 ∧ Aside0 (spec_CheckPath.j0 kq a1 a2 l3 a4 x22_5 a0_0 a0_1 = some r) ∧ Aside0 (kq ≤ k) ∧ Aside0 (wc.heap[gb351]? = some (.cells #[.string a0_0, .string a0_1] 26 (0, 0))) ∧ Aside0 (Below w.heap.size w wc))
  case first =>
   have H := HC6.out
   clear HC6
   replace H := Option.bind_eq_some_iff.mp H
   obtain ⟨t352, A80, H⟩ := H
   have A8 := Aside0.mk A80
   clear A80
   by_cases c9 : t352 = true
   rotate_left
   · replace c9 := Bool.eq_false_iff.mpr c9
     subst c9
     rw [if_neg (show ¬ (false = true) by decide)] at H
     have H' := Aside0.mk H
     clear H
     go_wp2_with (first | ((with_reducible refine gate_callee (f := 61) rfl ?_); refine gl_ (some 14) Try.func61 #[.int .i64 a2, .int .i64 1, .int .i64 60] rfl al_ ?_; (with_reducible refine (spec_l1In.calls a2 1 60 false _ A8.out).mono ?_); rintro e w' ⟨rfl, ⟨nd, rfl⟩⟩; refine ⟨_, rfl, ?_⟩))
     go_meet
     case rel => exact ⟨_, (true), rs_, H', ⟨by first | omega | exact Nat.le_refl _⟩, ⟨by (with_reducible repeat (first | refine blk_drewN ?_ _ | refine blk_drew ?_ | refine blk_alloc ?_ _)); exact BK351.out⟩, ⟨bs_ HB.out GE351.out⟩⟩
   subst c9
   rw [if_pos rfl] at H
   replace H := Option.bind_eq_some_iff.mp H
   obtain ⟨t353, A100, H⟩ := H
   have A10 := Aside0.mk A100
   clear A100
   have H' := Aside0.mk H
   clear H
   go_wp2_with (first | ((with_reducible refine gate_callee (f := 61) rfl ?_); refine gl_ (some 14) Try.func61 #[.int .i64 a2, .int .i64 1, .int .i64 60] rfl al_ ?_; (with_reducible refine (spec_l1In.calls a2 1 60 true _ A8.out).mono ?_); rintro e w' ⟨rfl, ⟨nd, rfl⟩⟩; refine ⟨_, rfl, ?_⟩) | (go_at_call 61; (with_reducible refine (spec_l1In.calls a1 0 (wrap64 (a2 - 1)) t353 _ A10.out).mono ?_); rintro e w' ⟨rfl, ⟨nd, rfl⟩⟩))
   go_meet
   case rel => exact ⟨_, (!t353), rs_, H', ⟨by first | omega | exact Nat.le_refl _⟩, ⟨by (with_reducible repeat (first | refine blk_drewN ?_ _ | refine blk_drew ?_ | refine blk_alloc ?_ _)); exact BK351.out⟩, ⟨bs_ HB.out GE351.out⟩⟩
  case rest =>
   clear HC6
   try clear c1
   try clear p2
   try clear c3
   try clear c6
   try clear p6
   try clear c9
   obtain ⟨kq, x22_5, rfl, HA, HJ5, BK351, HB⟩ := hcut
   cases kq with
   | zero => exact absurd HA.out (by simp [spec_CheckPath.j0])
   | succ kj5 =>
    have H := HA.out
    clear HA
    simp only [spec_CheckPath.j0] at H
    by_cases c11 : x22_5 = true
    · subst c11
      rw [if_pos rfl] at H
      obtain rfl := Option.some.inj H
      go_wp2
      go_ret
      exact ⟨rf_, bs_ HB.out GE351.out⟩
    · replace c11 := Bool.eq_false_iff.mpr c11
      subst c11
      rw [if_neg (show ¬ (false = true) by decide)] at H
      replace H := Option.bind_eq_some_iff.mp H
      obtain ⟨t354, A120, H⟩ := H
      have A12 := Aside0.mk A120
      clear A120
      replace H := Option.bind_eq_some_iff.mp H
      obtain ⟨⟨t357, t358⟩, A130, H⟩ := H; try dsimp only at H
      have A13 := Aside0.mk A130
      clear A130
      by_cases c14 : t358 = true
      · subst c14
        rw [if_pos rfl] at H
        obtain ⟨ji15, hji15⟩ : ∃ j_ : Int, (wrap64 ((t357.length : Int) - 1)) = j_ := ⟨_, rfl⟩
        replace H : (if 0 ≤ (ji15) then (if (ji15) < (t357.length : Int) then (if (rdOf ByteArray.empty t357 (ji15)).size ≤ 9223372036854775807 then ((spec_Digest.f kj5 (bytesOf (rdOf ByteArray.empty t357 (ji15)))).bind fun t366 => (some (t366.toList == a4.toList))) else (none)) else (none)) else (none)) = some r := by first | (rw [hji15] at H; exact H) | (simp only [hji15] at H ⊢; exact H)
        (try rw [hji15] at A12)
        (try rw [hji15] at A13)
        have hji15w : (IntKind.i64.wrap ((t357.length : Int) - 1)) = ji15 := (i64_w _).trans hji15
        by_cases c16 : 0 ≤ (ji15)
        rotate_left
        · rw [if_neg c16] at H; exact absurd H (by simp)
        rw [if_pos c16] at H
        have c16b0 : decide (0 ≤ (ji15)) = true := decide_eq_true c16
        clear c16
        by_cases c17 : (ji15) < (t357.length : Int)
        rotate_left
        · rw [if_neg c17] at H; exact absurd H (by simp)
        rw [if_pos c17] at H
        have c17b0 : decide ((ji15) < (t357.length : Int)) = true := decide_eq_true c17
        clear c17
        by_cases c18 : (rdOf ByteArray.empty t357 (ji15)).size ≤ 9223372036854775807
        rotate_left
        · rw [if_neg c18] at H; exact absurd H (by simp)
        rw [if_pos c18] at H
        have c18b0 := eq_true c18
        have c18b1 : decide ((rdOf ByteArray.empty t357 (ji15)).size ≤ 9223372036854775807) = true := decide_eq_true c18
        try have c18b2 : (9223372036854775807 < (rdOf ByteArray.empty t357 (ji15)).size) = False := eq_false (Nat.not_lt.2 c18)
        clear c18
        obtain ⟨y362, hy362⟩ : ∃ y_ : List Int, y_ = (bytesOf (rdOf ByteArray.empty t357 (ji15))) := ⟨_, rfl⟩
        replace H : ((spec_Digest.f kj5 y362).bind fun t366 => (some (t366.toList == a4.toList))) = some r := ry_ hy362 H
        have Ny362 := Aside0.mk hy362
        clear hy362
        replace H := Option.bind_eq_some_iff.mp H
        obtain ⟨t366, A190, H⟩ := H
        have A19 := Aside0.mk A190
        clear A190
        obtain rfl := Option.some.inj H
        obtain ⟨hcz20_0, hcz20_1, hfz20_0, hfz20_1⟩ := bx2_ BK351.out
        go_wp2_with (first | ((with_reducible refine gate_callee (f := 63) rfl ?_); refine gl_ (some 25) Try.func63 #[.agg #[.string a0_0, .string a0_1]] rfl al_ ?_; (with_reducible refine (spec_l4Leaf.calls kj5 a0_0 a0_1 t354 _ A12.out).mono ?_); rintro e w21 ⟨v355, rfl, ho0, hb⟩; refine ⟨_, rfl, ?_⟩; have HO356 := q_ (Kd.R_lower ho0 (below_size (bs_ HB.out GE351.out))); replace BK351 := q_ (bb_ BK351.out hb); replace HB := q_ (below_step (bs_ HB.out GE351.out) hb); (try clear hb); (try clear ho0); obtain ⟨Ao22, co22, eo22⟩ := Kd.R_slice HO356.out; subst eo22) | ((with_reducible refine gate_callee (f := 62) rfl ?_); refine gl_ (some 29) Try.func62 #[.slice Ao22 t354.length co22, .int .i64 a1, .int .i64 a2, .slice A3 l3.length c3] rfl al_ ?_; (with_reducible refine (spec_l4All.calls kj5 _ _ t354 a1 a2 _ _ l3 t357 true _ ?side1 ?side2 ?side3 ?side4 A13.out).mono ?_); (case side1 => exact kc_ (Kd.R_reads' HO356.out).2.2); (case side2 => exact (Kd.R_reads' HO356.out).2.1); (case side3 => exact kc_ (Kd.C_below HR3.out HB.out)); (case side4 => exact HC3.out); rintro e w23 ⟨v359, rfl, ho0, hb⟩; refine ⟨_, rfl, ?_⟩; replace HO356 := q_ (Kd.R_below (kr_ HO356.out) hb); have HO360 := q_ (Kd.R_lower ho0 (below_size (bs_ HB.out GE351.out))); replace BK351 := q_ (bb_ BK351.out hb); replace HB := q_ (below_step (bs_ HB.out GE351.out) hb); (try clear hb); (try clear ho0); obtain ⟨Ao24, co24, eo24⟩ := Kd.R_slice HO360.out; subst eo24; have p361 : 0 ≤ ((ji15) : Int) := od_; have q361 : (ji15) < (t357.length : Int) := od_; obtain ⟨ad361, e361, hx361_0⟩ := Kd.at_string (Kd.R_reads' HO360.out).2.2 (ji15) p361 q361; cases e361; replace p361 := eq_true p361; replace q361 := eq_true q361) | ((with_reducible refine gate_dst (N := 40) rfl ?_); (try (refine gate_guard (by rfl) ?_; dsimp only)); refine Kd.conv_event rfl 9 22 5 _ (rdOf ByteArray.empty t357 (ji15)) y362 rfl rfl Try.underlying9 Try.underlying22 Try.underlying5 Ny362.out od_ ?_; intro g365 c365 w25 hr_ hc_ hb; replace HO356 := q_ (Kd.R_below (kr_ HO356.out) hb); replace HO360 := q_ (Kd.R_below (kr_ HO360.out) hb); replace BK351 := q_ (bb_ BK351.out hb); replace HB := q_ (below_step (bs_ HB.out GE351.out) hb); have HR365 := q_ (hr_); have HC365 := q_ (hc_); clear hb hr_ hc_) | (go_at_call 53; (with_reducible refine (spec_Digest.calls kj5 _ _ y362 t366 _ ?side1 ?side2 A19.out).mono ?_); (case side1 => repeat (first | exact (by repeat (first | (with_reducible exact HR365.out) | (with_reducible refine Kd.C_alloc ?_ _) | (with_reducible refine Kd.C_drewN ?_ _) | (with_reducible refine Kd.C_drew ?_) | exact HR365.out)) | (with_reducible refine Kd.C_alloc ?_ _) | (with_reducible refine Kd.C_drewN ?_ _) | (with_reducible refine Kd.C_drew ?_))); (case side2 => exact HC365.out); rintro e w26 ⟨rfl, hb⟩; replace HO356 := q_ (Kd.R_below (kr_ HO356.out) hb); replace HO360 := q_ (Kd.R_below (kr_ HO360.out) hb); replace BK351 := q_ (bb_ BK351.out hb); replace HR365 := q_ (Kd.C_below (by repeat (first | (with_reducible exact HR365.out) | (with_reducible refine Kd.C_alloc ?_ _) | (with_reducible refine Kd.C_drewN ?_ _) | (with_reducible refine Kd.C_drew ?_) | exact HR365.out)) hb); replace HB := q_ (below_step (bs_ HB.out GE351.out) hb); (try clear hb)))
        go_ret
        exact ⟨by first | rfl | (simp [errW_none, errW_some] <;> rfl) | (simp only [← hji15]; first | rfl | (simp [errW_none, errW_some] <;> rfl)) | (simp [*, errW_none, errW_some] <;> rfl), bs_ HB.out GE351.out⟩
      · replace c14 := Bool.eq_false_iff.mpr c14
        subst c14
        rw [if_neg (show ¬ (false = true) by decide)] at H
        obtain rfl := Option.some.inj H
        obtain ⟨hcz27_0, hcz27_1, hfz27_0, hfz27_1⟩ := bx2_ BK351.out
        go_wp2_with (first | ((with_reducible refine gate_callee (f := 63) rfl ?_); refine gl_ (some 25) Try.func63 #[.agg #[.string a0_0, .string a0_1]] rfl al_ ?_; (with_reducible refine (spec_l4Leaf.calls kj5 a0_0 a0_1 t354 _ A12.out).mono ?_); rintro e w28 ⟨v355, rfl, ho0, hb⟩; refine ⟨_, rfl, ?_⟩; have HO356 := q_ (Kd.R_lower ho0 (below_size (bs_ HB.out GE351.out))); replace BK351 := q_ (bb_ BK351.out hb); replace HB := q_ (below_step (bs_ HB.out GE351.out) hb); (try clear hb); (try clear ho0); obtain ⟨Ao29, co29, eo29⟩ := Kd.R_slice HO356.out; subst eo29) | ((with_reducible refine gate_callee (f := 62) rfl ?_); refine gl_ (some 29) Try.func62 #[.slice Ao29 t354.length co29, .int .i64 a1, .int .i64 a2, .slice A3 l3.length c3] rfl al_ ?_; (with_reducible refine (spec_l4All.calls kj5 _ _ t354 a1 a2 _ _ l3 t357 false _ ?side1 ?side2 ?side3 ?side4 A13.out).mono ?_); (case side1 => exact kc_ (Kd.R_reads' HO356.out).2.2); (case side2 => exact (Kd.R_reads' HO356.out).2.1); (case side3 => exact kc_ (Kd.C_below HR3.out HB.out)); (case side4 => exact HC3.out); rintro e w30 ⟨v359, rfl, ho0, hb⟩; refine ⟨_, rfl, ?_⟩; replace HO356 := q_ (Kd.R_below (kr_ HO356.out) hb); have HO360 := q_ (Kd.R_lower ho0 (below_size (bs_ HB.out GE351.out))); replace BK351 := q_ (bb_ BK351.out hb); replace HB := q_ (below_step (bs_ HB.out GE351.out) hb); (try clear hb); (try clear ho0)))
        go_ret
        exact ⟨rf_, bs_ HB.out GE351.out⟩

/-! ###  spec_l5Item: function 72 -/
def spec_l5Item.f (k : Nat) (a0 : ByteArray) (a1_0 : Int) (a1_1 : Int) (l1_2 : List (S63)) (a2 : Int) : Option (Bool) := if 0 ≤ a2 then (if a2 < (l1_2.length : Int) then ((spec_PairOk.f k ((rd_T63 l1_2 a2).f0.f0) ((rd_T63 l1_2 a2).f0.f1)).bind fun t370 => (if t370 = true then ((spec_CheckPath.f k ((rd_T63 l1_2 a2).f0.f0) ((rd_T63 l1_2 a2).f0.f1) (wrap64 (a1_1 + a2)) a1_0 ((rd_T63 l1_2 a2).f1) a0).bind fun t371 => (if t371 = true then (if a2 = 0 then (some true) else (if 0 ≤ (wrap64 (a2 - 1)) then (if (wrap64 (a2 - 1)) < (l1_2.length : Int) then (some (Op.bytesLess (((rd_T63 l1_2 (wrap64 (a2 - 1))).f0.f0).toList) (((rd_T63 l1_2 a2).f0.f0).toList))) else (none)) else (none))) else (some false))) else (some false))) else (none)) else (none)
set_option maxHeartbeats 8000000 in
set_option maxRecDepth 100000 in
theorem spec_l5Item.calls (k : Nat) (a0 : ByteArray) (a1_0 : Int) (a1_1 : Int) (A1_2 : Option Addr) (c1_2 : Nat) (l1_2 : List (S63)) (a2 : Int) (r : Bool) (w : World) (hr1_2 : Kd.C k63 w A1_2 l1_2.length l1_2) (hc1_2 : l1_2.length ≤ c1_2) (h : spec_l5Item.f k a0 a1_0 a1_1 l1_2 a2 = some r) :
  Calls Try.prog 72 #[.string a0, .agg #[.int .i64 a1_0, .int .i64 a1_1, .slice A1_2 l1_2.length c1_2], .int .i64 a2] w fun e w' => e = .returned (.bool r) ∧ Below w.heap.size w w' := by
  have hu44 := Try.underlying44
  have hu63 := Try.underlying63
  have hu26 := Try.underlying26
  have HR1_2 := Aside0.mk hr1_2
  have HC1_2 := Aside0.mk hc1_2
  clear hr1_2 hc1_2
  have HB := q_ (Below.refl w.heap.size w)
  have H : (if 0 ≤ a2 then (if a2 < (l1_2.length : Int) then ((spec_PairOk.f k ((rd_T63 l1_2 a2).f0.f0) ((rd_T63 l1_2 a2).f0.f1)).bind fun t370 => (if t370 = true then ((spec_CheckPath.f k ((rd_T63 l1_2 a2).f0.f0) ((rd_T63 l1_2 a2).f0.f1) (wrap64 (a1_1 + a2)) a1_0 ((rd_T63 l1_2 a2).f1) a0).bind fun t371 => (if t371 = true then (if a2 = 0 then (some true) else (if 0 ≤ (wrap64 (a2 - 1)) then (if (wrap64 (a2 - 1)) < (l1_2.length : Int) then (some (Op.bytesLess (((rd_T63 l1_2 (wrap64 (a2 - 1))).f0.f0).toList) (((rd_T63 l1_2 a2).f0.f0).toList))) else (none)) else (none))) else (some false))) else (some false))) else (none)) else (none)) = some r := h
  clear h
  by_cases c4 : 0 ≤ a2
  rotate_left
  · rw [if_neg c4] at H; exact absurd H (by simp)
  rw [if_pos c4] at H
  have c4b0 : decide (0 ≤ a2) = true := decide_eq_true c4
  clear c4
  by_cases c5 : a2 < (l1_2.length : Int)
  rotate_left
  · rw [if_neg c5] at H; exact absurd H (by simp)
  rw [if_pos c5] at H
  have c5b0 : decide (a2 < (l1_2.length : Int)) = true := decide_eq_true c5
  clear c5
  replace H := Option.bind_eq_some_iff.mp H
  obtain ⟨t370, A60, H⟩ := H
  have A6 := Aside0.mk A60
  clear A60
  by_cases c7 : t370 = true
  · subst c7
    rw [if_pos rfl] at H
    replace H := Option.bind_eq_some_iff.mp H
    obtain ⟨t371, A80, H⟩ := H
    have A8 := Aside0.mk A80
    clear A80
    by_cases c9 : t371 = true
    rotate_left
    · replace c9 := Bool.eq_false_iff.mpr c9
      subst c9
      rw [if_neg (show ¬ (false = true) by decide)] at H
      obtain rfl := Option.some.inj H
      go_enter Try.func72, Try.ntmps72
      go_wp2_with (first | ((with_reducible refine gate_dst (N := 4) rfl ?_); refine box_event rfl (N := 4) rfl (cs := #[.int .i64 a1_0, .int .i64 a1_1, .slice A1_2 l1_2.length c1_2]) (t := 44) hr_ ?_; intro gb367 hg w34 hbox hb; have BK367 := q_ (hbox); have GW367 := q_ ((by rw [hg]; exact (below_size (be_ HB.out)) : w.heap.size ≤ gb367)); have GE367 := q_ ((by rw [hg]; exact (below_size (be_ HB.out)) : w.heap.size ≤ gb367)); replace HB := q_ (below_step (be_ HB.out) hb); clear hb hbox hg; obtain ⟨hcz35_0, hcz35_1, hcz35_2, hfz35_0, hfz35_1, hfz35_2⟩ := bx3_ BK367.out; have p368 : 0 ≤ (a2 : Int) := od_; have q368 : a2 < (l1_2.length : Int) := od_; obtain ⟨ad368, A368_2, c368_2, e368, hx368_0, hx368_1, hx368_2, hl368_2, hi368_2⟩ := at_T63 HR1_2.out a2 p368 q368; cases e368; replace hx368_0 := (HB.out.cell (World.block_lt_of_cell? w _ hx368_0)).trans hx368_0; replace hx368_1 := (HB.out.cell (World.block_lt_of_cell? w _ hx368_1)).trans hx368_1; replace hx368_2 := (HB.out.cell (World.block_lt_of_cell? w _ hx368_2)).trans hx368_2; have HR368_2 := Aside0.mk hi368_2; have HC368_2 := Aside0.mk hl368_2; clear hi368_2 hl368_2; replace p368 := eq_true p368; replace q368 := eq_true q368) | ((with_reducible refine gate_dst (N := 7) rfl ?_); refine box_event rfl (N := 7) rfl (cs := #[.string (⟨#[]⟩ : ByteArray), .string (⟨#[]⟩ : ByteArray), .slice none 0 0]) (t := 63) hr_ ?_; intro gb369 hg w36 hbox hb; have BK369 := q_ (hbox); have GW369 := q_ ((by rw [hg]; exact (below_size (bs_ HB.out GE367.out)) : w.heap.size ≤ gb369)); have GE369 := q_ ((by rw [hg]; exact (below_size (bs_ HB.out GE367.out)) : w.heap.size ≤ gb369)); replace HB := q_ (below_step (bs_ HB.out GE367.out) hb); have NB367_369 := q_ ((by rw [hg]; exact Nat.ne_of_lt (blk_lt (g := gb367) (o := .cells #[.int .i64 a1_0, .int .i64 a1_1, .slice (some ad368) l1_2.length c1_2] 44 (0, 0)) (bk_ BK367.out)) : gb367 ≠ gb369)); have NB369_367 := q_ ((by rw [hg]; exact Nat.ne_of_gt (blk_lt (g := gb367) (o := .cells #[.int .i64 a1_0, .int .i64 a1_1, .slice (some ad368) l1_2.length c1_2] 44 (0, 0)) (bk_ BK367.out)) : gb369 ≠ gb367)); replace BK367 := q_ (bb_ BK367.out hb); clear hb hbox hg; have hnb37 := NB369_367.out; have hnc37 := NB367_369.out; obtain ⟨hcz38_0, hcz38_1, hcz38_2, hfz38_0, hfz38_1, hfz38_2⟩ := bx3_ BK369.out) | (go_at_call 68; (with_reducible refine (spec_PairOk.calls k ((rd_T63 l1_2 a2).f0.f0) ((rd_T63 l1_2 a2).f0.f1) true _ A6.out).mono ?_); rintro e w39 ⟨rfl, hb⟩; replace BK367 := q_ (blk_below (g := gb367) (o := .cells #[.int .i64 a1_0, .int .i64 a1_1, .slice (some ad368) l1_2.length c1_2] 44 (0, 0)) (by (with_reducible repeat (first | refine blk_drewN ?_ _ | refine blk_drew ?_ | refine blk_alloc ?_ _)); refine blk_far ?_ NB367_369.out _; (with_reducible repeat (first | refine blk_drewN ?_ _ | refine blk_drew ?_ | refine blk_alloc ?_ _)); refine blk_far ?_ NB367_369.out _; (with_reducible repeat (first | refine blk_drewN ?_ _ | refine blk_drew ?_ | refine blk_alloc ?_ _)); refine blk_far ?_ NB367_369.out _; (with_reducible repeat (first | refine blk_drewN ?_ _ | refine blk_drew ?_ | refine blk_alloc ?_ _)); exact BK367.out) hb); replace BK369 := q_ (blk_below (g := gb369) (o := .cells #[.string ((rd_T63 l1_2 a2).f0.f0), .string ((rd_T63 l1_2 a2).f0.f1), .slice A368_2 ((rd_T63 l1_2 a2).f1).length c368_2] 63 (0, 0)) (by (with_reducible repeat (first | refine blk_drewN ?_ _ | refine blk_drew ?_ | refine blk_alloc ?_ _)); refine blk_put (cs := #[.string ((rd_T63 l1_2 a2).f0.f0), .string ((rd_T63 l1_2 a2).f0.f1), .slice none 0 0]) ?_ 2 _ rfl; (with_reducible repeat (first | refine blk_drewN ?_ _ | refine blk_drew ?_ | refine blk_alloc ?_ _)); refine blk_put (cs := #[.string ((rd_T63 l1_2 a2).f0.f0), .string (⟨#[]⟩ : ByteArray), .slice none 0 0]) ?_ 1 _ rfl; (with_reducible repeat (first | refine blk_drewN ?_ _ | refine blk_drew ?_ | refine blk_alloc ?_ _)); refine blk_put (cs := #[.string (⟨#[]⟩ : ByteArray), .string (⟨#[]⟩ : ByteArray), .slice none 0 0]) ?_ 0 _ rfl; (with_reducible repeat (first | refine blk_drewN ?_ _ | refine blk_drew ?_ | refine blk_alloc ?_ _)); exact BK369.out) hb); replace HB := q_ (below_step (b2_ HB.out GE367.out GE369.out) hb); (try clear hb); obtain ⟨hcz40_0, hcz40_1, hcz40_2, hfz40_0, hfz40_1, hfz40_2⟩ := bx3_ BK369.out; obtain ⟨hcz41_0, hcz41_1, hcz41_2, hfz41_0, hfz41_1, hfz41_2⟩ := bx3_ BK367.out) | (go_at_call 112; (with_reducible refine (spec_CheckPath.calls k ((rd_T63 l1_2 a2).f0.f0) ((rd_T63 l1_2 a2).f0.f1) (wrap64 (a1_1 + a2)) a1_0 _ _ ((rd_T63 l1_2 a2).f1) a0 false _ ?side1 ?side2 A8.out).mono ?_); (case side1 => exact kc_ (Kd.C_below HR368_2.out HB.out)); (case side2 => exact HC368_2.out); rintro e w42 ⟨rfl, hb⟩; replace BK367 := q_ (bb_ BK367.out hb); replace BK369 := q_ (bb_ BK369.out hb); replace HB := q_ (below_step (b2_ HB.out GE367.out GE369.out) hb); (try clear hb)))
      repeat (go_quiet (first | ((with_reducible refine gate_dst (N := 4) rfl ?_); refine box_event rfl (N := 4) rfl (cs := #[.int .i64 a1_0, .int .i64 a1_1, .slice A1_2 l1_2.length c1_2]) (t := 44) hr_ ?_; intro gb367 hg w34 hbox hb; have BK367 := q_ (hbox); have GW367 := q_ ((by rw [hg]; exact (below_size (be_ HB.out)) : w.heap.size ≤ gb367)); have GE367 := q_ ((by rw [hg]; exact (below_size (be_ HB.out)) : w.heap.size ≤ gb367)); replace HB := q_ (below_step (be_ HB.out) hb); clear hb hbox hg; obtain ⟨hcz35_0, hcz35_1, hcz35_2, hfz35_0, hfz35_1, hfz35_2⟩ := bx3_ BK367.out; have p368 : 0 ≤ (a2 : Int) := od_; have q368 : a2 < (l1_2.length : Int) := od_; obtain ⟨ad368, A368_2, c368_2, e368, hx368_0, hx368_1, hx368_2, hl368_2, hi368_2⟩ := at_T63 HR1_2.out a2 p368 q368; cases e368; replace hx368_0 := (HB.out.cell (World.block_lt_of_cell? w _ hx368_0)).trans hx368_0; replace hx368_1 := (HB.out.cell (World.block_lt_of_cell? w _ hx368_1)).trans hx368_1; replace hx368_2 := (HB.out.cell (World.block_lt_of_cell? w _ hx368_2)).trans hx368_2; have HR368_2 := Aside0.mk hi368_2; have HC368_2 := Aside0.mk hl368_2; clear hi368_2 hl368_2; replace p368 := eq_true p368; replace q368 := eq_true q368) | ((with_reducible refine gate_dst (N := 7) rfl ?_); refine box_event rfl (N := 7) rfl (cs := #[.string (⟨#[]⟩ : ByteArray), .string (⟨#[]⟩ : ByteArray), .slice none 0 0]) (t := 63) hr_ ?_; intro gb369 hg w36 hbox hb; have BK369 := q_ (hbox); have GW369 := q_ ((by rw [hg]; exact (below_size (bs_ HB.out GE367.out)) : w.heap.size ≤ gb369)); have GE369 := q_ ((by rw [hg]; exact (below_size (bs_ HB.out GE367.out)) : w.heap.size ≤ gb369)); replace HB := q_ (below_step (bs_ HB.out GE367.out) hb); have NB367_369 := q_ ((by rw [hg]; exact Nat.ne_of_lt (blk_lt (g := gb367) (o := .cells #[.int .i64 a1_0, .int .i64 a1_1, .slice (some ad368) l1_2.length c1_2] 44 (0, 0)) (bk_ BK367.out)) : gb367 ≠ gb369)); have NB369_367 := q_ ((by rw [hg]; exact Nat.ne_of_gt (blk_lt (g := gb367) (o := .cells #[.int .i64 a1_0, .int .i64 a1_1, .slice (some ad368) l1_2.length c1_2] 44 (0, 0)) (bk_ BK367.out)) : gb369 ≠ gb367)); replace BK367 := q_ (bb_ BK367.out hb); clear hb hbox hg; have hnb37 := NB369_367.out; have hnc37 := NB367_369.out; obtain ⟨hcz38_0, hcz38_1, hcz38_2, hfz38_0, hfz38_1, hfz38_2⟩ := bx3_ BK369.out) | (go_at_call 68; (with_reducible refine (spec_PairOk.calls k ((rd_T63 l1_2 a2).f0.f0) ((rd_T63 l1_2 a2).f0.f1) true _ A6.out).mono ?_); rintro e w39 ⟨rfl, hb⟩; replace BK367 := q_ (blk_below (g := gb367) (o := .cells #[.int .i64 a1_0, .int .i64 a1_1, .slice (some ad368) l1_2.length c1_2] 44 (0, 0)) (by (with_reducible repeat (first | refine blk_drewN ?_ _ | refine blk_drew ?_ | refine blk_alloc ?_ _)); refine blk_far ?_ NB367_369.out _; (with_reducible repeat (first | refine blk_drewN ?_ _ | refine blk_drew ?_ | refine blk_alloc ?_ _)); refine blk_far ?_ NB367_369.out _; (with_reducible repeat (first | refine blk_drewN ?_ _ | refine blk_drew ?_ | refine blk_alloc ?_ _)); refine blk_far ?_ NB367_369.out _; (with_reducible repeat (first | refine blk_drewN ?_ _ | refine blk_drew ?_ | refine blk_alloc ?_ _)); exact BK367.out) hb); replace BK369 := q_ (blk_below (g := gb369) (o := .cells #[.string ((rd_T63 l1_2 a2).f0.f0), .string ((rd_T63 l1_2 a2).f0.f1), .slice A368_2 ((rd_T63 l1_2 a2).f1).length c368_2] 63 (0, 0)) (by (with_reducible repeat (first | refine blk_drewN ?_ _ | refine blk_drew ?_ | refine blk_alloc ?_ _)); refine blk_put (cs := #[.string ((rd_T63 l1_2 a2).f0.f0), .string ((rd_T63 l1_2 a2).f0.f1), .slice none 0 0]) ?_ 2 _ rfl; (with_reducible repeat (first | refine blk_drewN ?_ _ | refine blk_drew ?_ | refine blk_alloc ?_ _)); refine blk_put (cs := #[.string ((rd_T63 l1_2 a2).f0.f0), .string (⟨#[]⟩ : ByteArray), .slice none 0 0]) ?_ 1 _ rfl; (with_reducible repeat (first | refine blk_drewN ?_ _ | refine blk_drew ?_ | refine blk_alloc ?_ _)); refine blk_put (cs := #[.string (⟨#[]⟩ : ByteArray), .string (⟨#[]⟩ : ByteArray), .slice none 0 0]) ?_ 0 _ rfl; (with_reducible repeat (first | refine blk_drewN ?_ _ | refine blk_drew ?_ | refine blk_alloc ?_ _)); exact BK369.out) hb); replace HB := q_ (below_step (b2_ HB.out GE367.out GE369.out) hb); (try clear hb); obtain ⟨hcz40_0, hcz40_1, hcz40_2, hfz40_0, hfz40_1, hfz40_2⟩ := bx3_ BK369.out; obtain ⟨hcz41_0, hcz41_1, hcz41_2, hfz41_0, hfz41_1, hfz41_2⟩ := bx3_ BK367.out) | (go_at_call 112; (with_reducible refine (spec_CheckPath.calls k ((rd_T63 l1_2 a2).f0.f0) ((rd_T63 l1_2 a2).f0.f1) (wrap64 (a1_1 + a2)) a1_0 _ _ ((rd_T63 l1_2 a2).f1) a0 false _ ?side1 ?side2 A8.out).mono ?_); (case side1 => exact kc_ (Kd.C_below HR368_2.out HB.out)); (case side2 => exact HC368_2.out); rintro e w42 ⟨rfl, hb⟩; replace BK367 := q_ (bb_ BK367.out hb); replace BK369 := q_ (bb_ BK369.out hb); replace HB := q_ (below_step (b2_ HB.out GE367.out GE369.out) hb); (try clear hb))); try go_wp2_with (first | ((with_reducible refine gate_dst (N := 4) rfl ?_); refine box_event rfl (N := 4) rfl (cs := #[.int .i64 a1_0, .int .i64 a1_1, .slice A1_2 l1_2.length c1_2]) (t := 44) hr_ ?_; intro gb367 hg w34 hbox hb; have BK367 := q_ (hbox); have GW367 := q_ ((by rw [hg]; exact (below_size (be_ HB.out)) : w.heap.size ≤ gb367)); have GE367 := q_ ((by rw [hg]; exact (below_size (be_ HB.out)) : w.heap.size ≤ gb367)); replace HB := q_ (below_step (be_ HB.out) hb); clear hb hbox hg; obtain ⟨hcz35_0, hcz35_1, hcz35_2, hfz35_0, hfz35_1, hfz35_2⟩ := bx3_ BK367.out; have p368 : 0 ≤ (a2 : Int) := od_; have q368 : a2 < (l1_2.length : Int) := od_; obtain ⟨ad368, A368_2, c368_2, e368, hx368_0, hx368_1, hx368_2, hl368_2, hi368_2⟩ := at_T63 HR1_2.out a2 p368 q368; cases e368; replace hx368_0 := (HB.out.cell (World.block_lt_of_cell? w _ hx368_0)).trans hx368_0; replace hx368_1 := (HB.out.cell (World.block_lt_of_cell? w _ hx368_1)).trans hx368_1; replace hx368_2 := (HB.out.cell (World.block_lt_of_cell? w _ hx368_2)).trans hx368_2; have HR368_2 := Aside0.mk hi368_2; have HC368_2 := Aside0.mk hl368_2; clear hi368_2 hl368_2; replace p368 := eq_true p368; replace q368 := eq_true q368) | ((with_reducible refine gate_dst (N := 7) rfl ?_); refine box_event rfl (N := 7) rfl (cs := #[.string (⟨#[]⟩ : ByteArray), .string (⟨#[]⟩ : ByteArray), .slice none 0 0]) (t := 63) hr_ ?_; intro gb369 hg w36 hbox hb; have BK369 := q_ (hbox); have GW369 := q_ ((by rw [hg]; exact (below_size (bs_ HB.out GE367.out)) : w.heap.size ≤ gb369)); have GE369 := q_ ((by rw [hg]; exact (below_size (bs_ HB.out GE367.out)) : w.heap.size ≤ gb369)); replace HB := q_ (below_step (bs_ HB.out GE367.out) hb); have NB367_369 := q_ ((by rw [hg]; exact Nat.ne_of_lt (blk_lt (g := gb367) (o := .cells #[.int .i64 a1_0, .int .i64 a1_1, .slice (some ad368) l1_2.length c1_2] 44 (0, 0)) (bk_ BK367.out)) : gb367 ≠ gb369)); have NB369_367 := q_ ((by rw [hg]; exact Nat.ne_of_gt (blk_lt (g := gb367) (o := .cells #[.int .i64 a1_0, .int .i64 a1_1, .slice (some ad368) l1_2.length c1_2] 44 (0, 0)) (bk_ BK367.out)) : gb369 ≠ gb367)); replace BK367 := q_ (bb_ BK367.out hb); clear hb hbox hg; have hnb37 := NB369_367.out; have hnc37 := NB367_369.out; obtain ⟨hcz38_0, hcz38_1, hcz38_2, hfz38_0, hfz38_1, hfz38_2⟩ := bx3_ BK369.out) | (go_at_call 68; (with_reducible refine (spec_PairOk.calls k ((rd_T63 l1_2 a2).f0.f0) ((rd_T63 l1_2 a2).f0.f1) true _ A6.out).mono ?_); rintro e w39 ⟨rfl, hb⟩; replace BK367 := q_ (blk_below (g := gb367) (o := .cells #[.int .i64 a1_0, .int .i64 a1_1, .slice (some ad368) l1_2.length c1_2] 44 (0, 0)) (by (with_reducible repeat (first | refine blk_drewN ?_ _ | refine blk_drew ?_ | refine blk_alloc ?_ _)); refine blk_far ?_ NB367_369.out _; (with_reducible repeat (first | refine blk_drewN ?_ _ | refine blk_drew ?_ | refine blk_alloc ?_ _)); refine blk_far ?_ NB367_369.out _; (with_reducible repeat (first | refine blk_drewN ?_ _ | refine blk_drew ?_ | refine blk_alloc ?_ _)); refine blk_far ?_ NB367_369.out _; (with_reducible repeat (first | refine blk_drewN ?_ _ | refine blk_drew ?_ | refine blk_alloc ?_ _)); exact BK367.out) hb); replace BK369 := q_ (blk_below (g := gb369) (o := .cells #[.string ((rd_T63 l1_2 a2).f0.f0), .string ((rd_T63 l1_2 a2).f0.f1), .slice A368_2 ((rd_T63 l1_2 a2).f1).length c368_2] 63 (0, 0)) (by (with_reducible repeat (first | refine blk_drewN ?_ _ | refine blk_drew ?_ | refine blk_alloc ?_ _)); refine blk_put (cs := #[.string ((rd_T63 l1_2 a2).f0.f0), .string ((rd_T63 l1_2 a2).f0.f1), .slice none 0 0]) ?_ 2 _ rfl; (with_reducible repeat (first | refine blk_drewN ?_ _ | refine blk_drew ?_ | refine blk_alloc ?_ _)); refine blk_put (cs := #[.string ((rd_T63 l1_2 a2).f0.f0), .string (⟨#[]⟩ : ByteArray), .slice none 0 0]) ?_ 1 _ rfl; (with_reducible repeat (first | refine blk_drewN ?_ _ | refine blk_drew ?_ | refine blk_alloc ?_ _)); refine blk_put (cs := #[.string (⟨#[]⟩ : ByteArray), .string (⟨#[]⟩ : ByteArray), .slice none 0 0]) ?_ 0 _ rfl; (with_reducible repeat (first | refine blk_drewN ?_ _ | refine blk_drew ?_ | refine blk_alloc ?_ _)); exact BK369.out) hb); replace HB := q_ (below_step (b2_ HB.out GE367.out GE369.out) hb); (try clear hb); obtain ⟨hcz40_0, hcz40_1, hcz40_2, hfz40_0, hfz40_1, hfz40_2⟩ := bx3_ BK369.out; obtain ⟨hcz41_0, hcz41_1, hcz41_2, hfz41_0, hfz41_1, hfz41_2⟩ := bx3_ BK367.out) | (go_at_call 112; (with_reducible refine (spec_CheckPath.calls k ((rd_T63 l1_2 a2).f0.f0) ((rd_T63 l1_2 a2).f0.f1) (wrap64 (a1_1 + a2)) a1_0 _ _ ((rd_T63 l1_2 a2).f1) a0 false _ ?side1 ?side2 A8.out).mono ?_); (case side1 => exact kc_ (Kd.C_below HR368_2.out HB.out)); (case side2 => exact HC368_2.out); rintro e w42 ⟨rfl, hb⟩; replace BK367 := q_ (bb_ BK367.out hb); replace BK369 := q_ (bb_ BK369.out hb); replace HB := q_ (below_step (b2_ HB.out GE367.out GE369.out) hb); (try clear hb))))
      go_ret
      exact ⟨rf_, b2_ HB.out GE367.out GE369.out⟩
    subst c9
    rw [if_pos rfl] at H
    by_cases c10 : a2 = 0
    · rw [if_pos c10] at H
      have c10b0 : (a2 == 0) = true := beq_iff_eq.mpr c10
      have c10b1 : (a2 != 0) = false := bne_eq_false_iff_eq.mpr c10
      clear c10
      obtain rfl := Option.some.inj H
      go_enter Try.func72, Try.ntmps72
      go_wp2_with (first | ((with_reducible refine gate_dst (N := 4) rfl ?_); refine box_event rfl (N := 4) rfl (cs := #[.int .i64 a1_0, .int .i64 a1_1, .slice A1_2 l1_2.length c1_2]) (t := 44) hr_ ?_; intro gb367 hg w11 hbox hb; have BK367 := q_ (hbox); have GW367 := q_ ((by rw [hg]; exact (below_size (be_ HB.out)) : w.heap.size ≤ gb367)); have GE367 := q_ ((by rw [hg]; exact (below_size (be_ HB.out)) : w.heap.size ≤ gb367)); replace HB := q_ (below_step (be_ HB.out) hb); clear hb hbox hg; obtain ⟨hcz12_0, hcz12_1, hcz12_2, hfz12_0, hfz12_1, hfz12_2⟩ := bx3_ BK367.out; have p368 : 0 ≤ (a2 : Int) := od_; have q368 : a2 < (l1_2.length : Int) := od_; obtain ⟨ad368, A368_2, c368_2, e368, hx368_0, hx368_1, hx368_2, hl368_2, hi368_2⟩ := at_T63 HR1_2.out a2 p368 q368; cases e368; replace hx368_0 := (HB.out.cell (World.block_lt_of_cell? w _ hx368_0)).trans hx368_0; replace hx368_1 := (HB.out.cell (World.block_lt_of_cell? w _ hx368_1)).trans hx368_1; replace hx368_2 := (HB.out.cell (World.block_lt_of_cell? w _ hx368_2)).trans hx368_2; have HR368_2 := Aside0.mk hi368_2; have HC368_2 := Aside0.mk hl368_2; clear hi368_2 hl368_2; replace p368 := eq_true p368; replace q368 := eq_true q368) | ((with_reducible refine gate_dst (N := 7) rfl ?_); refine box_event rfl (N := 7) rfl (cs := #[.string (⟨#[]⟩ : ByteArray), .string (⟨#[]⟩ : ByteArray), .slice none 0 0]) (t := 63) hr_ ?_; intro gb369 hg w13 hbox hb; have BK369 := q_ (hbox); have GW369 := q_ ((by rw [hg]; exact (below_size (bs_ HB.out GE367.out)) : w.heap.size ≤ gb369)); have GE369 := q_ ((by rw [hg]; exact (below_size (bs_ HB.out GE367.out)) : w.heap.size ≤ gb369)); replace HB := q_ (below_step (bs_ HB.out GE367.out) hb); have NB367_369 := q_ ((by rw [hg]; exact Nat.ne_of_lt (blk_lt (g := gb367) (o := .cells #[.int .i64 a1_0, .int .i64 a1_1, .slice (some ad368) l1_2.length c1_2] 44 (0, 0)) (bk_ BK367.out)) : gb367 ≠ gb369)); have NB369_367 := q_ ((by rw [hg]; exact Nat.ne_of_gt (blk_lt (g := gb367) (o := .cells #[.int .i64 a1_0, .int .i64 a1_1, .slice (some ad368) l1_2.length c1_2] 44 (0, 0)) (bk_ BK367.out)) : gb369 ≠ gb367)); replace BK367 := q_ (bb_ BK367.out hb); clear hb hbox hg; have hnb14 := NB369_367.out; have hnc14 := NB367_369.out; obtain ⟨hcz15_0, hcz15_1, hcz15_2, hfz15_0, hfz15_1, hfz15_2⟩ := bx3_ BK369.out) | (go_at_call 68; (with_reducible refine (spec_PairOk.calls k ((rd_T63 l1_2 a2).f0.f0) ((rd_T63 l1_2 a2).f0.f1) true _ A6.out).mono ?_); rintro e w16 ⟨rfl, hb⟩; replace BK367 := q_ (blk_below (g := gb367) (o := .cells #[.int .i64 a1_0, .int .i64 a1_1, .slice (some ad368) l1_2.length c1_2] 44 (0, 0)) (by (with_reducible repeat (first | refine blk_drewN ?_ _ | refine blk_drew ?_ | refine blk_alloc ?_ _)); refine blk_far ?_ NB367_369.out _; (with_reducible repeat (first | refine blk_drewN ?_ _ | refine blk_drew ?_ | refine blk_alloc ?_ _)); refine blk_far ?_ NB367_369.out _; (with_reducible repeat (first | refine blk_drewN ?_ _ | refine blk_drew ?_ | refine blk_alloc ?_ _)); refine blk_far ?_ NB367_369.out _; (with_reducible repeat (first | refine blk_drewN ?_ _ | refine blk_drew ?_ | refine blk_alloc ?_ _)); exact BK367.out) hb); replace BK369 := q_ (blk_below (g := gb369) (o := .cells #[.string ((rd_T63 l1_2 a2).f0.f0), .string ((rd_T63 l1_2 a2).f0.f1), .slice A368_2 ((rd_T63 l1_2 a2).f1).length c368_2] 63 (0, 0)) (by (with_reducible repeat (first | refine blk_drewN ?_ _ | refine blk_drew ?_ | refine blk_alloc ?_ _)); refine blk_put (cs := #[.string ((rd_T63 l1_2 a2).f0.f0), .string ((rd_T63 l1_2 a2).f0.f1), .slice none 0 0]) ?_ 2 _ rfl; (with_reducible repeat (first | refine blk_drewN ?_ _ | refine blk_drew ?_ | refine blk_alloc ?_ _)); refine blk_put (cs := #[.string ((rd_T63 l1_2 a2).f0.f0), .string (⟨#[]⟩ : ByteArray), .slice none 0 0]) ?_ 1 _ rfl; (with_reducible repeat (first | refine blk_drewN ?_ _ | refine blk_drew ?_ | refine blk_alloc ?_ _)); refine blk_put (cs := #[.string (⟨#[]⟩ : ByteArray), .string (⟨#[]⟩ : ByteArray), .slice none 0 0]) ?_ 0 _ rfl; (with_reducible repeat (first | refine blk_drewN ?_ _ | refine blk_drew ?_ | refine blk_alloc ?_ _)); exact BK369.out) hb); replace HB := q_ (below_step (b2_ HB.out GE367.out GE369.out) hb); (try clear hb); obtain ⟨hcz17_0, hcz17_1, hcz17_2, hfz17_0, hfz17_1, hfz17_2⟩ := bx3_ BK369.out; obtain ⟨hcz18_0, hcz18_1, hcz18_2, hfz18_0, hfz18_1, hfz18_2⟩ := bx3_ BK367.out) | (go_at_call 112; (with_reducible refine (spec_CheckPath.calls k ((rd_T63 l1_2 a2).f0.f0) ((rd_T63 l1_2 a2).f0.f1) (wrap64 (a1_1 + a2)) a1_0 _ _ ((rd_T63 l1_2 a2).f1) a0 true _ ?side1 ?side2 A8.out).mono ?_); (case side1 => exact kc_ (Kd.C_below HR368_2.out HB.out)); (case side2 => exact HC368_2.out); rintro e w19 ⟨rfl, hb⟩; replace BK367 := q_ (bb_ BK367.out hb); replace BK369 := q_ (bb_ BK369.out hb); replace HB := q_ (below_step (b2_ HB.out GE367.out GE369.out) hb); (try clear hb)))
      repeat (go_quiet (first | ((with_reducible refine gate_dst (N := 4) rfl ?_); refine box_event rfl (N := 4) rfl (cs := #[.int .i64 a1_0, .int .i64 a1_1, .slice A1_2 l1_2.length c1_2]) (t := 44) hr_ ?_; intro gb367 hg w11 hbox hb; have BK367 := q_ (hbox); have GW367 := q_ ((by rw [hg]; exact (below_size (be_ HB.out)) : w.heap.size ≤ gb367)); have GE367 := q_ ((by rw [hg]; exact (below_size (be_ HB.out)) : w.heap.size ≤ gb367)); replace HB := q_ (below_step (be_ HB.out) hb); clear hb hbox hg; obtain ⟨hcz12_0, hcz12_1, hcz12_2, hfz12_0, hfz12_1, hfz12_2⟩ := bx3_ BK367.out; have p368 : 0 ≤ (a2 : Int) := od_; have q368 : a2 < (l1_2.length : Int) := od_; obtain ⟨ad368, A368_2, c368_2, e368, hx368_0, hx368_1, hx368_2, hl368_2, hi368_2⟩ := at_T63 HR1_2.out a2 p368 q368; cases e368; replace hx368_0 := (HB.out.cell (World.block_lt_of_cell? w _ hx368_0)).trans hx368_0; replace hx368_1 := (HB.out.cell (World.block_lt_of_cell? w _ hx368_1)).trans hx368_1; replace hx368_2 := (HB.out.cell (World.block_lt_of_cell? w _ hx368_2)).trans hx368_2; have HR368_2 := Aside0.mk hi368_2; have HC368_2 := Aside0.mk hl368_2; clear hi368_2 hl368_2; replace p368 := eq_true p368; replace q368 := eq_true q368) | ((with_reducible refine gate_dst (N := 7) rfl ?_); refine box_event rfl (N := 7) rfl (cs := #[.string (⟨#[]⟩ : ByteArray), .string (⟨#[]⟩ : ByteArray), .slice none 0 0]) (t := 63) hr_ ?_; intro gb369 hg w13 hbox hb; have BK369 := q_ (hbox); have GW369 := q_ ((by rw [hg]; exact (below_size (bs_ HB.out GE367.out)) : w.heap.size ≤ gb369)); have GE369 := q_ ((by rw [hg]; exact (below_size (bs_ HB.out GE367.out)) : w.heap.size ≤ gb369)); replace HB := q_ (below_step (bs_ HB.out GE367.out) hb); have NB367_369 := q_ ((by rw [hg]; exact Nat.ne_of_lt (blk_lt (g := gb367) (o := .cells #[.int .i64 a1_0, .int .i64 a1_1, .slice (some ad368) l1_2.length c1_2] 44 (0, 0)) (bk_ BK367.out)) : gb367 ≠ gb369)); have NB369_367 := q_ ((by rw [hg]; exact Nat.ne_of_gt (blk_lt (g := gb367) (o := .cells #[.int .i64 a1_0, .int .i64 a1_1, .slice (some ad368) l1_2.length c1_2] 44 (0, 0)) (bk_ BK367.out)) : gb369 ≠ gb367)); replace BK367 := q_ (bb_ BK367.out hb); clear hb hbox hg; have hnb14 := NB369_367.out; have hnc14 := NB367_369.out; obtain ⟨hcz15_0, hcz15_1, hcz15_2, hfz15_0, hfz15_1, hfz15_2⟩ := bx3_ BK369.out) | (go_at_call 68; (with_reducible refine (spec_PairOk.calls k ((rd_T63 l1_2 a2).f0.f0) ((rd_T63 l1_2 a2).f0.f1) true _ A6.out).mono ?_); rintro e w16 ⟨rfl, hb⟩; replace BK367 := q_ (blk_below (g := gb367) (o := .cells #[.int .i64 a1_0, .int .i64 a1_1, .slice (some ad368) l1_2.length c1_2] 44 (0, 0)) (by (with_reducible repeat (first | refine blk_drewN ?_ _ | refine blk_drew ?_ | refine blk_alloc ?_ _)); refine blk_far ?_ NB367_369.out _; (with_reducible repeat (first | refine blk_drewN ?_ _ | refine blk_drew ?_ | refine blk_alloc ?_ _)); refine blk_far ?_ NB367_369.out _; (with_reducible repeat (first | refine blk_drewN ?_ _ | refine blk_drew ?_ | refine blk_alloc ?_ _)); refine blk_far ?_ NB367_369.out _; (with_reducible repeat (first | refine blk_drewN ?_ _ | refine blk_drew ?_ | refine blk_alloc ?_ _)); exact BK367.out) hb); replace BK369 := q_ (blk_below (g := gb369) (o := .cells #[.string ((rd_T63 l1_2 a2).f0.f0), .string ((rd_T63 l1_2 a2).f0.f1), .slice A368_2 ((rd_T63 l1_2 a2).f1).length c368_2] 63 (0, 0)) (by (with_reducible repeat (first | refine blk_drewN ?_ _ | refine blk_drew ?_ | refine blk_alloc ?_ _)); refine blk_put (cs := #[.string ((rd_T63 l1_2 a2).f0.f0), .string ((rd_T63 l1_2 a2).f0.f1), .slice none 0 0]) ?_ 2 _ rfl; (with_reducible repeat (first | refine blk_drewN ?_ _ | refine blk_drew ?_ | refine blk_alloc ?_ _)); refine blk_put (cs := #[.string ((rd_T63 l1_2 a2).f0.f0), .string (⟨#[]⟩ : ByteArray), .slice none 0 0]) ?_ 1 _ rfl; (with_reducible repeat (first | refine blk_drewN ?_ _ | refine blk_drew ?_ | refine blk_alloc ?_ _)); refine blk_put (cs := #[.string (⟨#[]⟩ : ByteArray), .string (⟨#[]⟩ : ByteArray), .slice none 0 0]) ?_ 0 _ rfl; (with_reducible repeat (first | refine blk_drewN ?_ _ | refine blk_drew ?_ | refine blk_alloc ?_ _)); exact BK369.out) hb); replace HB := q_ (below_step (b2_ HB.out GE367.out GE369.out) hb); (try clear hb); obtain ⟨hcz17_0, hcz17_1, hcz17_2, hfz17_0, hfz17_1, hfz17_2⟩ := bx3_ BK369.out; obtain ⟨hcz18_0, hcz18_1, hcz18_2, hfz18_0, hfz18_1, hfz18_2⟩ := bx3_ BK367.out) | (go_at_call 112; (with_reducible refine (spec_CheckPath.calls k ((rd_T63 l1_2 a2).f0.f0) ((rd_T63 l1_2 a2).f0.f1) (wrap64 (a1_1 + a2)) a1_0 _ _ ((rd_T63 l1_2 a2).f1) a0 true _ ?side1 ?side2 A8.out).mono ?_); (case side1 => exact kc_ (Kd.C_below HR368_2.out HB.out)); (case side2 => exact HC368_2.out); rintro e w19 ⟨rfl, hb⟩; replace BK367 := q_ (bb_ BK367.out hb); replace BK369 := q_ (bb_ BK369.out hb); replace HB := q_ (below_step (b2_ HB.out GE367.out GE369.out) hb); (try clear hb))); try go_wp2_with (first | ((with_reducible refine gate_dst (N := 4) rfl ?_); refine box_event rfl (N := 4) rfl (cs := #[.int .i64 a1_0, .int .i64 a1_1, .slice A1_2 l1_2.length c1_2]) (t := 44) hr_ ?_; intro gb367 hg w11 hbox hb; have BK367 := q_ (hbox); have GW367 := q_ ((by rw [hg]; exact (below_size (be_ HB.out)) : w.heap.size ≤ gb367)); have GE367 := q_ ((by rw [hg]; exact (below_size (be_ HB.out)) : w.heap.size ≤ gb367)); replace HB := q_ (below_step (be_ HB.out) hb); clear hb hbox hg; obtain ⟨hcz12_0, hcz12_1, hcz12_2, hfz12_0, hfz12_1, hfz12_2⟩ := bx3_ BK367.out; have p368 : 0 ≤ (a2 : Int) := od_; have q368 : a2 < (l1_2.length : Int) := od_; obtain ⟨ad368, A368_2, c368_2, e368, hx368_0, hx368_1, hx368_2, hl368_2, hi368_2⟩ := at_T63 HR1_2.out a2 p368 q368; cases e368; replace hx368_0 := (HB.out.cell (World.block_lt_of_cell? w _ hx368_0)).trans hx368_0; replace hx368_1 := (HB.out.cell (World.block_lt_of_cell? w _ hx368_1)).trans hx368_1; replace hx368_2 := (HB.out.cell (World.block_lt_of_cell? w _ hx368_2)).trans hx368_2; have HR368_2 := Aside0.mk hi368_2; have HC368_2 := Aside0.mk hl368_2; clear hi368_2 hl368_2; replace p368 := eq_true p368; replace q368 := eq_true q368) | ((with_reducible refine gate_dst (N := 7) rfl ?_); refine box_event rfl (N := 7) rfl (cs := #[.string (⟨#[]⟩ : ByteArray), .string (⟨#[]⟩ : ByteArray), .slice none 0 0]) (t := 63) hr_ ?_; intro gb369 hg w13 hbox hb; have BK369 := q_ (hbox); have GW369 := q_ ((by rw [hg]; exact (below_size (bs_ HB.out GE367.out)) : w.heap.size ≤ gb369)); have GE369 := q_ ((by rw [hg]; exact (below_size (bs_ HB.out GE367.out)) : w.heap.size ≤ gb369)); replace HB := q_ (below_step (bs_ HB.out GE367.out) hb); have NB367_369 := q_ ((by rw [hg]; exact Nat.ne_of_lt (blk_lt (g := gb367) (o := .cells #[.int .i64 a1_0, .int .i64 a1_1, .slice (some ad368) l1_2.length c1_2] 44 (0, 0)) (bk_ BK367.out)) : gb367 ≠ gb369)); have NB369_367 := q_ ((by rw [hg]; exact Nat.ne_of_gt (blk_lt (g := gb367) (o := .cells #[.int .i64 a1_0, .int .i64 a1_1, .slice (some ad368) l1_2.length c1_2] 44 (0, 0)) (bk_ BK367.out)) : gb369 ≠ gb367)); replace BK367 := q_ (bb_ BK367.out hb); clear hb hbox hg; have hnb14 := NB369_367.out; have hnc14 := NB367_369.out; obtain ⟨hcz15_0, hcz15_1, hcz15_2, hfz15_0, hfz15_1, hfz15_2⟩ := bx3_ BK369.out) | (go_at_call 68; (with_reducible refine (spec_PairOk.calls k ((rd_T63 l1_2 a2).f0.f0) ((rd_T63 l1_2 a2).f0.f1) true _ A6.out).mono ?_); rintro e w16 ⟨rfl, hb⟩; replace BK367 := q_ (blk_below (g := gb367) (o := .cells #[.int .i64 a1_0, .int .i64 a1_1, .slice (some ad368) l1_2.length c1_2] 44 (0, 0)) (by (with_reducible repeat (first | refine blk_drewN ?_ _ | refine blk_drew ?_ | refine blk_alloc ?_ _)); refine blk_far ?_ NB367_369.out _; (with_reducible repeat (first | refine blk_drewN ?_ _ | refine blk_drew ?_ | refine blk_alloc ?_ _)); refine blk_far ?_ NB367_369.out _; (with_reducible repeat (first | refine blk_drewN ?_ _ | refine blk_drew ?_ | refine blk_alloc ?_ _)); refine blk_far ?_ NB367_369.out _; (with_reducible repeat (first | refine blk_drewN ?_ _ | refine blk_drew ?_ | refine blk_alloc ?_ _)); exact BK367.out) hb); replace BK369 := q_ (blk_below (g := gb369) (o := .cells #[.string ((rd_T63 l1_2 a2).f0.f0), .string ((rd_T63 l1_2 a2).f0.f1), .slice A368_2 ((rd_T63 l1_2 a2).f1).length c368_2] 63 (0, 0)) (by (with_reducible repeat (first | refine blk_drewN ?_ _ | refine blk_drew ?_ | refine blk_alloc ?_ _)); refine blk_put (cs := #[.string ((rd_T63 l1_2 a2).f0.f0), .string ((rd_T63 l1_2 a2).f0.f1), .slice none 0 0]) ?_ 2 _ rfl; (with_reducible repeat (first | refine blk_drewN ?_ _ | refine blk_drew ?_ | refine blk_alloc ?_ _)); refine blk_put (cs := #[.string ((rd_T63 l1_2 a2).f0.f0), .string (⟨#[]⟩ : ByteArray), .slice none 0 0]) ?_ 1 _ rfl; (with_reducible repeat (first | refine blk_drewN ?_ _ | refine blk_drew ?_ | refine blk_alloc ?_ _)); refine blk_put (cs := #[.string (⟨#[]⟩ : ByteArray), .string (⟨#[]⟩ : ByteArray), .slice none 0 0]) ?_ 0 _ rfl; (with_reducible repeat (first | refine blk_drewN ?_ _ | refine blk_drew ?_ | refine blk_alloc ?_ _)); exact BK369.out) hb); replace HB := q_ (below_step (b2_ HB.out GE367.out GE369.out) hb); (try clear hb); obtain ⟨hcz17_0, hcz17_1, hcz17_2, hfz17_0, hfz17_1, hfz17_2⟩ := bx3_ BK369.out; obtain ⟨hcz18_0, hcz18_1, hcz18_2, hfz18_0, hfz18_1, hfz18_2⟩ := bx3_ BK367.out) | (go_at_call 112; (with_reducible refine (spec_CheckPath.calls k ((rd_T63 l1_2 a2).f0.f0) ((rd_T63 l1_2 a2).f0.f1) (wrap64 (a1_1 + a2)) a1_0 _ _ ((rd_T63 l1_2 a2).f1) a0 true _ ?side1 ?side2 A8.out).mono ?_); (case side1 => exact kc_ (Kd.C_below HR368_2.out HB.out)); (case side2 => exact HC368_2.out); rintro e w19 ⟨rfl, hb⟩; replace BK367 := q_ (bb_ BK367.out hb); replace BK369 := q_ (bb_ BK369.out hb); replace HB := q_ (below_step (b2_ HB.out GE367.out GE369.out) hb); (try clear hb))))
      go_ret
      exact ⟨rf_, b2_ HB.out GE367.out GE369.out⟩
    rw [if_neg c10] at H
    have c10b0 : (a2 == 0) = false := beq_eq_false_iff_ne.mpr c10
    have c10b1 : (a2 != 0) = true := bne_iff_ne.mpr c10
    obtain ⟨ji20, hji20⟩ : ∃ j_ : Int, (wrap64 (a2 - 1)) = j_ := ⟨_, rfl⟩
    replace H : (if 0 ≤ (ji20) then (if (ji20) < (l1_2.length : Int) then (some (Op.bytesLess (((rd_T63 l1_2 (ji20)).f0.f0).toList) (((rd_T63 l1_2 a2).f0.f0).toList))) else (none)) else (none)) = some r := by first | (rw [hji20] at H; exact H) | (simp only [hji20] at H ⊢; exact H)
    (try rw [hji20] at A6)
    (try rw [hji20] at A8)
    have hji20w : (IntKind.i64.wrap (a2 - 1)) = ji20 := (i64_w _).trans hji20
    by_cases c21 : 0 ≤ (ji20)
    rotate_left
    · rw [if_neg c21] at H; exact absurd H (by simp)
    rw [if_pos c21] at H
    have c21b0 : decide (0 ≤ (ji20)) = true := decide_eq_true c21
    clear c21
    by_cases c22 : (ji20) < (l1_2.length : Int)
    rotate_left
    · rw [if_neg c22] at H; exact absurd H (by simp)
    rw [if_pos c22] at H
    have c22b0 : decide ((ji20) < (l1_2.length : Int)) = true := decide_eq_true c22
    clear c22
    obtain rfl := Option.some.inj H
    go_enter Try.func72, Try.ntmps72
    go_wp2_with (first | ((with_reducible refine gate_dst (N := 4) rfl ?_); refine box_event rfl (N := 4) rfl (cs := #[.int .i64 a1_0, .int .i64 a1_1, .slice A1_2 l1_2.length c1_2]) (t := 44) hr_ ?_; intro gb367 hg w23 hbox hb; have BK367 := q_ (hbox); have GW367 := q_ ((by rw [hg]; exact (below_size (be_ HB.out)) : w.heap.size ≤ gb367)); have GE367 := q_ ((by rw [hg]; exact (below_size (be_ HB.out)) : w.heap.size ≤ gb367)); replace HB := q_ (below_step (be_ HB.out) hb); clear hb hbox hg; obtain ⟨hcz24_0, hcz24_1, hcz24_2, hfz24_0, hfz24_1, hfz24_2⟩ := bx3_ BK367.out; have p368 : 0 ≤ (a2 : Int) := od_; have q368 : a2 < (l1_2.length : Int) := od_; obtain ⟨ad368, A368_2, c368_2, e368, hx368_0, hx368_1, hx368_2, hl368_2, hi368_2⟩ := at_T63 HR1_2.out a2 p368 q368; cases e368; replace hx368_0 := (HB.out.cell (World.block_lt_of_cell? w _ hx368_0)).trans hx368_0; replace hx368_1 := (HB.out.cell (World.block_lt_of_cell? w _ hx368_1)).trans hx368_1; replace hx368_2 := (HB.out.cell (World.block_lt_of_cell? w _ hx368_2)).trans hx368_2; have HR368_2 := Aside0.mk hi368_2; have HC368_2 := Aside0.mk hl368_2; clear hi368_2 hl368_2; replace p368 := eq_true p368; replace q368 := eq_true q368) | ((with_reducible refine gate_dst (N := 7) rfl ?_); refine box_event rfl (N := 7) rfl (cs := #[.string (⟨#[]⟩ : ByteArray), .string (⟨#[]⟩ : ByteArray), .slice none 0 0]) (t := 63) hr_ ?_; intro gb369 hg w25 hbox hb; have BK369 := q_ (hbox); have GW369 := q_ ((by rw [hg]; exact (below_size (bs_ HB.out GE367.out)) : w.heap.size ≤ gb369)); have GE369 := q_ ((by rw [hg]; exact (below_size (bs_ HB.out GE367.out)) : w.heap.size ≤ gb369)); replace HB := q_ (below_step (bs_ HB.out GE367.out) hb); have NB367_369 := q_ ((by rw [hg]; exact Nat.ne_of_lt (blk_lt (g := gb367) (o := .cells #[.int .i64 a1_0, .int .i64 a1_1, .slice (some ad368) l1_2.length c1_2] 44 (0, 0)) (bk_ BK367.out)) : gb367 ≠ gb369)); have NB369_367 := q_ ((by rw [hg]; exact Nat.ne_of_gt (blk_lt (g := gb367) (o := .cells #[.int .i64 a1_0, .int .i64 a1_1, .slice (some ad368) l1_2.length c1_2] 44 (0, 0)) (bk_ BK367.out)) : gb369 ≠ gb367)); replace BK367 := q_ (bb_ BK367.out hb); clear hb hbox hg; have hnb26 := NB369_367.out; have hnc26 := NB367_369.out; obtain ⟨hcz27_0, hcz27_1, hcz27_2, hfz27_0, hfz27_1, hfz27_2⟩ := bx3_ BK369.out) | (go_at_call 68; (with_reducible refine (spec_PairOk.calls k ((rd_T63 l1_2 a2).f0.f0) ((rd_T63 l1_2 a2).f0.f1) true _ A6.out).mono ?_); rintro e w28 ⟨rfl, hb⟩; replace BK367 := q_ (blk_below (g := gb367) (o := .cells #[.int .i64 a1_0, .int .i64 a1_1, .slice (some ad368) l1_2.length c1_2] 44 (0, 0)) (by (with_reducible repeat (first | refine blk_drewN ?_ _ | refine blk_drew ?_ | refine blk_alloc ?_ _)); refine blk_far ?_ NB367_369.out _; (with_reducible repeat (first | refine blk_drewN ?_ _ | refine blk_drew ?_ | refine blk_alloc ?_ _)); refine blk_far ?_ NB367_369.out _; (with_reducible repeat (first | refine blk_drewN ?_ _ | refine blk_drew ?_ | refine blk_alloc ?_ _)); refine blk_far ?_ NB367_369.out _; (with_reducible repeat (first | refine blk_drewN ?_ _ | refine blk_drew ?_ | refine blk_alloc ?_ _)); exact BK367.out) hb); replace BK369 := q_ (blk_below (g := gb369) (o := .cells #[.string ((rd_T63 l1_2 a2).f0.f0), .string ((rd_T63 l1_2 a2).f0.f1), .slice A368_2 ((rd_T63 l1_2 a2).f1).length c368_2] 63 (0, 0)) (by (with_reducible repeat (first | refine blk_drewN ?_ _ | refine blk_drew ?_ | refine blk_alloc ?_ _)); refine blk_put (cs := #[.string ((rd_T63 l1_2 a2).f0.f0), .string ((rd_T63 l1_2 a2).f0.f1), .slice none 0 0]) ?_ 2 _ rfl; (with_reducible repeat (first | refine blk_drewN ?_ _ | refine blk_drew ?_ | refine blk_alloc ?_ _)); refine blk_put (cs := #[.string ((rd_T63 l1_2 a2).f0.f0), .string (⟨#[]⟩ : ByteArray), .slice none 0 0]) ?_ 1 _ rfl; (with_reducible repeat (first | refine blk_drewN ?_ _ | refine blk_drew ?_ | refine blk_alloc ?_ _)); refine blk_put (cs := #[.string (⟨#[]⟩ : ByteArray), .string (⟨#[]⟩ : ByteArray), .slice none 0 0]) ?_ 0 _ rfl; (with_reducible repeat (first | refine blk_drewN ?_ _ | refine blk_drew ?_ | refine blk_alloc ?_ _)); exact BK369.out) hb); replace HB := q_ (below_step (b2_ HB.out GE367.out GE369.out) hb); (try clear hb); obtain ⟨hcz29_0, hcz29_1, hcz29_2, hfz29_0, hfz29_1, hfz29_2⟩ := bx3_ BK369.out; obtain ⟨hcz30_0, hcz30_1, hcz30_2, hfz30_0, hfz30_1, hfz30_2⟩ := bx3_ BK367.out) | (go_at_call 112; (with_reducible refine (spec_CheckPath.calls k ((rd_T63 l1_2 a2).f0.f0) ((rd_T63 l1_2 a2).f0.f1) (wrap64 (a1_1 + a2)) a1_0 _ _ ((rd_T63 l1_2 a2).f1) a0 true _ ?side1 ?side2 A8.out).mono ?_); (case side1 => exact kc_ (Kd.C_below HR368_2.out HB.out)); (case side2 => exact HC368_2.out); rintro e w31 ⟨rfl, hb⟩; replace BK367 := q_ (bb_ BK367.out hb); replace BK369 := q_ (bb_ BK369.out hb); replace HB := q_ (below_step (b2_ HB.out GE367.out GE369.out) hb); (try clear hb); obtain ⟨hcz32_0, hcz32_1, hcz32_2, hfz32_0, hfz32_1, hfz32_2⟩ := bx3_ BK367.out; have p372 : 0 ≤ ((ji20) : Int) := od_; have q372 : (ji20) < (l1_2.length : Int) := od_; obtain ⟨ad372, A372_2, c372_2, e372, hx372_0, hx372_1, hx372_2, hl372_2, hi372_2⟩ := at_T63 HR1_2.out (ji20) p372 q372; obtain rfl : ad368 = ad372 := (by injection e372); replace hx372_0 := (HB.out.cell (World.block_lt_of_cell? w _ hx372_0)).trans hx372_0; replace hx372_1 := (HB.out.cell (World.block_lt_of_cell? w _ hx372_1)).trans hx372_1; replace hx372_2 := (HB.out.cell (World.block_lt_of_cell? w _ hx372_2)).trans hx372_2; have HR372_2 := Aside0.mk hi372_2; have HC372_2 := Aside0.mk hl372_2; clear hi372_2 hl372_2; replace p372 := eq_true p372; replace q372 := eq_true q372; obtain ⟨hcz33_0, hcz33_1, hcz33_2, hfz33_0, hfz33_1, hfz33_2⟩ := bx3_ BK369.out))
    repeat (go_quiet (first | ((with_reducible refine gate_dst (N := 4) rfl ?_); refine box_event rfl (N := 4) rfl (cs := #[.int .i64 a1_0, .int .i64 a1_1, .slice A1_2 l1_2.length c1_2]) (t := 44) hr_ ?_; intro gb367 hg w23 hbox hb; have BK367 := q_ (hbox); have GW367 := q_ ((by rw [hg]; exact (below_size (be_ HB.out)) : w.heap.size ≤ gb367)); have GE367 := q_ ((by rw [hg]; exact (below_size (be_ HB.out)) : w.heap.size ≤ gb367)); replace HB := q_ (below_step (be_ HB.out) hb); clear hb hbox hg; obtain ⟨hcz24_0, hcz24_1, hcz24_2, hfz24_0, hfz24_1, hfz24_2⟩ := bx3_ BK367.out; have p368 : 0 ≤ (a2 : Int) := od_; have q368 : a2 < (l1_2.length : Int) := od_; obtain ⟨ad368, A368_2, c368_2, e368, hx368_0, hx368_1, hx368_2, hl368_2, hi368_2⟩ := at_T63 HR1_2.out a2 p368 q368; cases e368; replace hx368_0 := (HB.out.cell (World.block_lt_of_cell? w _ hx368_0)).trans hx368_0; replace hx368_1 := (HB.out.cell (World.block_lt_of_cell? w _ hx368_1)).trans hx368_1; replace hx368_2 := (HB.out.cell (World.block_lt_of_cell? w _ hx368_2)).trans hx368_2; have HR368_2 := Aside0.mk hi368_2; have HC368_2 := Aside0.mk hl368_2; clear hi368_2 hl368_2; replace p368 := eq_true p368; replace q368 := eq_true q368) | ((with_reducible refine gate_dst (N := 7) rfl ?_); refine box_event rfl (N := 7) rfl (cs := #[.string (⟨#[]⟩ : ByteArray), .string (⟨#[]⟩ : ByteArray), .slice none 0 0]) (t := 63) hr_ ?_; intro gb369 hg w25 hbox hb; have BK369 := q_ (hbox); have GW369 := q_ ((by rw [hg]; exact (below_size (bs_ HB.out GE367.out)) : w.heap.size ≤ gb369)); have GE369 := q_ ((by rw [hg]; exact (below_size (bs_ HB.out GE367.out)) : w.heap.size ≤ gb369)); replace HB := q_ (below_step (bs_ HB.out GE367.out) hb); have NB367_369 := q_ ((by rw [hg]; exact Nat.ne_of_lt (blk_lt (g := gb367) (o := .cells #[.int .i64 a1_0, .int .i64 a1_1, .slice (some ad368) l1_2.length c1_2] 44 (0, 0)) (bk_ BK367.out)) : gb367 ≠ gb369)); have NB369_367 := q_ ((by rw [hg]; exact Nat.ne_of_gt (blk_lt (g := gb367) (o := .cells #[.int .i64 a1_0, .int .i64 a1_1, .slice (some ad368) l1_2.length c1_2] 44 (0, 0)) (bk_ BK367.out)) : gb369 ≠ gb367)); replace BK367 := q_ (bb_ BK367.out hb); clear hb hbox hg; have hnb26 := NB369_367.out; have hnc26 := NB367_369.out; obtain ⟨hcz27_0, hcz27_1, hcz27_2, hfz27_0, hfz27_1, hfz27_2⟩ := bx3_ BK369.out) | (go_at_call 68; (with_reducible refine (spec_PairOk.calls k ((rd_T63 l1_2 a2).f0.f0) ((rd_T63 l1_2 a2).f0.f1) true _ A6.out).mono ?_); rintro e w28 ⟨rfl, hb⟩; replace BK367 := q_ (blk_below (g := gb367) (o := .cells #[.int .i64 a1_0, .int .i64 a1_1, .slice (some ad368) l1_2.length c1_2] 44 (0, 0)) (by (with_reducible repeat (first | refine blk_drewN ?_ _ | refine blk_drew ?_ | refine blk_alloc ?_ _)); refine blk_far ?_ NB367_369.out _; (with_reducible repeat (first | refine blk_drewN ?_ _ | refine blk_drew ?_ | refine blk_alloc ?_ _)); refine blk_far ?_ NB367_369.out _; (with_reducible repeat (first | refine blk_drewN ?_ _ | refine blk_drew ?_ | refine blk_alloc ?_ _)); refine blk_far ?_ NB367_369.out _; (with_reducible repeat (first | refine blk_drewN ?_ _ | refine blk_drew ?_ | refine blk_alloc ?_ _)); exact BK367.out) hb); replace BK369 := q_ (blk_below (g := gb369) (o := .cells #[.string ((rd_T63 l1_2 a2).f0.f0), .string ((rd_T63 l1_2 a2).f0.f1), .slice A368_2 ((rd_T63 l1_2 a2).f1).length c368_2] 63 (0, 0)) (by (with_reducible repeat (first | refine blk_drewN ?_ _ | refine blk_drew ?_ | refine blk_alloc ?_ _)); refine blk_put (cs := #[.string ((rd_T63 l1_2 a2).f0.f0), .string ((rd_T63 l1_2 a2).f0.f1), .slice none 0 0]) ?_ 2 _ rfl; (with_reducible repeat (first | refine blk_drewN ?_ _ | refine blk_drew ?_ | refine blk_alloc ?_ _)); refine blk_put (cs := #[.string ((rd_T63 l1_2 a2).f0.f0), .string (⟨#[]⟩ : ByteArray), .slice none 0 0]) ?_ 1 _ rfl; (with_reducible repeat (first | refine blk_drewN ?_ _ | refine blk_drew ?_ | refine blk_alloc ?_ _)); refine blk_put (cs := #[.string (⟨#[]⟩ : ByteArray), .string (⟨#[]⟩ : ByteArray), .slice none 0 0]) ?_ 0 _ rfl; (with_reducible repeat (first | refine blk_drewN ?_ _ | refine blk_drew ?_ | refine blk_alloc ?_ _)); exact BK369.out) hb); replace HB := q_ (below_step (b2_ HB.out GE367.out GE369.out) hb); (try clear hb); obtain ⟨hcz29_0, hcz29_1, hcz29_2, hfz29_0, hfz29_1, hfz29_2⟩ := bx3_ BK369.out; obtain ⟨hcz30_0, hcz30_1, hcz30_2, hfz30_0, hfz30_1, hfz30_2⟩ := bx3_ BK367.out) | (go_at_call 112; (with_reducible refine (spec_CheckPath.calls k ((rd_T63 l1_2 a2).f0.f0) ((rd_T63 l1_2 a2).f0.f1) (wrap64 (a1_1 + a2)) a1_0 _ _ ((rd_T63 l1_2 a2).f1) a0 true _ ?side1 ?side2 A8.out).mono ?_); (case side1 => exact kc_ (Kd.C_below HR368_2.out HB.out)); (case side2 => exact HC368_2.out); rintro e w31 ⟨rfl, hb⟩; replace BK367 := q_ (bb_ BK367.out hb); replace BK369 := q_ (bb_ BK369.out hb); replace HB := q_ (below_step (b2_ HB.out GE367.out GE369.out) hb); (try clear hb); obtain ⟨hcz32_0, hcz32_1, hcz32_2, hfz32_0, hfz32_1, hfz32_2⟩ := bx3_ BK367.out; have p372 : 0 ≤ ((ji20) : Int) := od_; have q372 : (ji20) < (l1_2.length : Int) := od_; obtain ⟨ad372, A372_2, c372_2, e372, hx372_0, hx372_1, hx372_2, hl372_2, hi372_2⟩ := at_T63 HR1_2.out (ji20) p372 q372; obtain rfl : ad368 = ad372 := (by injection e372); replace hx372_0 := (HB.out.cell (World.block_lt_of_cell? w _ hx372_0)).trans hx372_0; replace hx372_1 := (HB.out.cell (World.block_lt_of_cell? w _ hx372_1)).trans hx372_1; replace hx372_2 := (HB.out.cell (World.block_lt_of_cell? w _ hx372_2)).trans hx372_2; have HR372_2 := Aside0.mk hi372_2; have HC372_2 := Aside0.mk hl372_2; clear hi372_2 hl372_2; replace p372 := eq_true p372; replace q372 := eq_true q372; obtain ⟨hcz33_0, hcz33_1, hcz33_2, hfz33_0, hfz33_1, hfz33_2⟩ := bx3_ BK369.out)); try go_wp2_with (first | ((with_reducible refine gate_dst (N := 4) rfl ?_); refine box_event rfl (N := 4) rfl (cs := #[.int .i64 a1_0, .int .i64 a1_1, .slice A1_2 l1_2.length c1_2]) (t := 44) hr_ ?_; intro gb367 hg w23 hbox hb; have BK367 := q_ (hbox); have GW367 := q_ ((by rw [hg]; exact (below_size (be_ HB.out)) : w.heap.size ≤ gb367)); have GE367 := q_ ((by rw [hg]; exact (below_size (be_ HB.out)) : w.heap.size ≤ gb367)); replace HB := q_ (below_step (be_ HB.out) hb); clear hb hbox hg; obtain ⟨hcz24_0, hcz24_1, hcz24_2, hfz24_0, hfz24_1, hfz24_2⟩ := bx3_ BK367.out; have p368 : 0 ≤ (a2 : Int) := od_; have q368 : a2 < (l1_2.length : Int) := od_; obtain ⟨ad368, A368_2, c368_2, e368, hx368_0, hx368_1, hx368_2, hl368_2, hi368_2⟩ := at_T63 HR1_2.out a2 p368 q368; cases e368; replace hx368_0 := (HB.out.cell (World.block_lt_of_cell? w _ hx368_0)).trans hx368_0; replace hx368_1 := (HB.out.cell (World.block_lt_of_cell? w _ hx368_1)).trans hx368_1; replace hx368_2 := (HB.out.cell (World.block_lt_of_cell? w _ hx368_2)).trans hx368_2; have HR368_2 := Aside0.mk hi368_2; have HC368_2 := Aside0.mk hl368_2; clear hi368_2 hl368_2; replace p368 := eq_true p368; replace q368 := eq_true q368) | ((with_reducible refine gate_dst (N := 7) rfl ?_); refine box_event rfl (N := 7) rfl (cs := #[.string (⟨#[]⟩ : ByteArray), .string (⟨#[]⟩ : ByteArray), .slice none 0 0]) (t := 63) hr_ ?_; intro gb369 hg w25 hbox hb; have BK369 := q_ (hbox); have GW369 := q_ ((by rw [hg]; exact (below_size (bs_ HB.out GE367.out)) : w.heap.size ≤ gb369)); have GE369 := q_ ((by rw [hg]; exact (below_size (bs_ HB.out GE367.out)) : w.heap.size ≤ gb369)); replace HB := q_ (below_step (bs_ HB.out GE367.out) hb); have NB367_369 := q_ ((by rw [hg]; exact Nat.ne_of_lt (blk_lt (g := gb367) (o := .cells #[.int .i64 a1_0, .int .i64 a1_1, .slice (some ad368) l1_2.length c1_2] 44 (0, 0)) (bk_ BK367.out)) : gb367 ≠ gb369)); have NB369_367 := q_ ((by rw [hg]; exact Nat.ne_of_gt (blk_lt (g := gb367) (o := .cells #[.int .i64 a1_0, .int .i64 a1_1, .slice (some ad368) l1_2.length c1_2] 44 (0, 0)) (bk_ BK367.out)) : gb369 ≠ gb367)); replace BK367 := q_ (bb_ BK367.out hb); clear hb hbox hg; have hnb26 := NB369_367.out; have hnc26 := NB367_369.out; obtain ⟨hcz27_0, hcz27_1, hcz27_2, hfz27_0, hfz27_1, hfz27_2⟩ := bx3_ BK369.out) | (go_at_call 68; (with_reducible refine (spec_PairOk.calls k ((rd_T63 l1_2 a2).f0.f0) ((rd_T63 l1_2 a2).f0.f1) true _ A6.out).mono ?_); rintro e w28 ⟨rfl, hb⟩; replace BK367 := q_ (blk_below (g := gb367) (o := .cells #[.int .i64 a1_0, .int .i64 a1_1, .slice (some ad368) l1_2.length c1_2] 44 (0, 0)) (by (with_reducible repeat (first | refine blk_drewN ?_ _ | refine blk_drew ?_ | refine blk_alloc ?_ _)); refine blk_far ?_ NB367_369.out _; (with_reducible repeat (first | refine blk_drewN ?_ _ | refine blk_drew ?_ | refine blk_alloc ?_ _)); refine blk_far ?_ NB367_369.out _; (with_reducible repeat (first | refine blk_drewN ?_ _ | refine blk_drew ?_ | refine blk_alloc ?_ _)); refine blk_far ?_ NB367_369.out _; (with_reducible repeat (first | refine blk_drewN ?_ _ | refine blk_drew ?_ | refine blk_alloc ?_ _)); exact BK367.out) hb); replace BK369 := q_ (blk_below (g := gb369) (o := .cells #[.string ((rd_T63 l1_2 a2).f0.f0), .string ((rd_T63 l1_2 a2).f0.f1), .slice A368_2 ((rd_T63 l1_2 a2).f1).length c368_2] 63 (0, 0)) (by (with_reducible repeat (first | refine blk_drewN ?_ _ | refine blk_drew ?_ | refine blk_alloc ?_ _)); refine blk_put (cs := #[.string ((rd_T63 l1_2 a2).f0.f0), .string ((rd_T63 l1_2 a2).f0.f1), .slice none 0 0]) ?_ 2 _ rfl; (with_reducible repeat (first | refine blk_drewN ?_ _ | refine blk_drew ?_ | refine blk_alloc ?_ _)); refine blk_put (cs := #[.string ((rd_T63 l1_2 a2).f0.f0), .string (⟨#[]⟩ : ByteArray), .slice none 0 0]) ?_ 1 _ rfl; (with_reducible repeat (first | refine blk_drewN ?_ _ | refine blk_drew ?_ | refine blk_alloc ?_ _)); refine blk_put (cs := #[.string (⟨#[]⟩ : ByteArray), .string (⟨#[]⟩ : ByteArray), .slice none 0 0]) ?_ 0 _ rfl; (with_reducible repeat (first | refine blk_drewN ?_ _ | refine blk_drew ?_ | refine blk_alloc ?_ _)); exact BK369.out) hb); replace HB := q_ (below_step (b2_ HB.out GE367.out GE369.out) hb); (try clear hb); obtain ⟨hcz29_0, hcz29_1, hcz29_2, hfz29_0, hfz29_1, hfz29_2⟩ := bx3_ BK369.out; obtain ⟨hcz30_0, hcz30_1, hcz30_2, hfz30_0, hfz30_1, hfz30_2⟩ := bx3_ BK367.out) | (go_at_call 112; (with_reducible refine (spec_CheckPath.calls k ((rd_T63 l1_2 a2).f0.f0) ((rd_T63 l1_2 a2).f0.f1) (wrap64 (a1_1 + a2)) a1_0 _ _ ((rd_T63 l1_2 a2).f1) a0 true _ ?side1 ?side2 A8.out).mono ?_); (case side1 => exact kc_ (Kd.C_below HR368_2.out HB.out)); (case side2 => exact HC368_2.out); rintro e w31 ⟨rfl, hb⟩; replace BK367 := q_ (bb_ BK367.out hb); replace BK369 := q_ (bb_ BK369.out hb); replace HB := q_ (below_step (b2_ HB.out GE367.out GE369.out) hb); (try clear hb); obtain ⟨hcz32_0, hcz32_1, hcz32_2, hfz32_0, hfz32_1, hfz32_2⟩ := bx3_ BK367.out; have p372 : 0 ≤ ((ji20) : Int) := od_; have q372 : (ji20) < (l1_2.length : Int) := od_; obtain ⟨ad372, A372_2, c372_2, e372, hx372_0, hx372_1, hx372_2, hl372_2, hi372_2⟩ := at_T63 HR1_2.out (ji20) p372 q372; obtain rfl : ad368 = ad372 := (by injection e372); replace hx372_0 := (HB.out.cell (World.block_lt_of_cell? w _ hx372_0)).trans hx372_0; replace hx372_1 := (HB.out.cell (World.block_lt_of_cell? w _ hx372_1)).trans hx372_1; replace hx372_2 := (HB.out.cell (World.block_lt_of_cell? w _ hx372_2)).trans hx372_2; have HR372_2 := Aside0.mk hi372_2; have HC372_2 := Aside0.mk hl372_2; clear hi372_2 hl372_2; replace p372 := eq_true p372; replace q372 := eq_true q372; obtain ⟨hcz33_0, hcz33_1, hcz33_2, hfz33_0, hfz33_1, hfz33_2⟩ := bx3_ BK369.out)))
    go_ret
    exact ⟨by first | rfl | (simp [errW_none, errW_some] <;> rfl) | (simp only [← hji20]; first | rfl | (simp [errW_none, errW_some] <;> rfl)) | (simp [*, errW_none, errW_some] <;> rfl), b2_ HB.out GE367.out GE369.out⟩
  · replace c7 := Bool.eq_false_iff.mpr c7
    subst c7
    rw [if_neg (show ¬ (false = true) by decide)] at H
    obtain rfl := Option.some.inj H
    go_enter Try.func72, Try.ntmps72
    go_wp2_with (first | ((with_reducible refine gate_dst (N := 4) rfl ?_); refine box_event rfl (N := 4) rfl (cs := #[.int .i64 a1_0, .int .i64 a1_1, .slice A1_2 l1_2.length c1_2]) (t := 44) hr_ ?_; intro gb367 hg w43 hbox hb; have BK367 := q_ (hbox); have GW367 := q_ ((by rw [hg]; exact (below_size (be_ HB.out)) : w.heap.size ≤ gb367)); have GE367 := q_ ((by rw [hg]; exact (below_size (be_ HB.out)) : w.heap.size ≤ gb367)); replace HB := q_ (below_step (be_ HB.out) hb); clear hb hbox hg; obtain ⟨hcz44_0, hcz44_1, hcz44_2, hfz44_0, hfz44_1, hfz44_2⟩ := bx3_ BK367.out; have p368 : 0 ≤ (a2 : Int) := od_; have q368 : a2 < (l1_2.length : Int) := od_; obtain ⟨ad368, A368_2, c368_2, e368, hx368_0, hx368_1, hx368_2, hl368_2, hi368_2⟩ := at_T63 HR1_2.out a2 p368 q368; cases e368; replace hx368_0 := (HB.out.cell (World.block_lt_of_cell? w _ hx368_0)).trans hx368_0; replace hx368_1 := (HB.out.cell (World.block_lt_of_cell? w _ hx368_1)).trans hx368_1; replace hx368_2 := (HB.out.cell (World.block_lt_of_cell? w _ hx368_2)).trans hx368_2; have HR368_2 := Aside0.mk hi368_2; have HC368_2 := Aside0.mk hl368_2; clear hi368_2 hl368_2; replace p368 := eq_true p368; replace q368 := eq_true q368) | ((with_reducible refine gate_dst (N := 7) rfl ?_); refine box_event rfl (N := 7) rfl (cs := #[.string (⟨#[]⟩ : ByteArray), .string (⟨#[]⟩ : ByteArray), .slice none 0 0]) (t := 63) hr_ ?_; intro gb369 hg w45 hbox hb; have BK369 := q_ (hbox); have GW369 := q_ ((by rw [hg]; exact (below_size (bs_ HB.out GE367.out)) : w.heap.size ≤ gb369)); have GE369 := q_ ((by rw [hg]; exact (below_size (bs_ HB.out GE367.out)) : w.heap.size ≤ gb369)); replace HB := q_ (below_step (bs_ HB.out GE367.out) hb); have NB367_369 := q_ ((by rw [hg]; exact Nat.ne_of_lt (blk_lt (g := gb367) (o := .cells #[.int .i64 a1_0, .int .i64 a1_1, .slice (some ad368) l1_2.length c1_2] 44 (0, 0)) (bk_ BK367.out)) : gb367 ≠ gb369)); have NB369_367 := q_ ((by rw [hg]; exact Nat.ne_of_gt (blk_lt (g := gb367) (o := .cells #[.int .i64 a1_0, .int .i64 a1_1, .slice (some ad368) l1_2.length c1_2] 44 (0, 0)) (bk_ BK367.out)) : gb369 ≠ gb367)); replace BK367 := q_ (bb_ BK367.out hb); clear hb hbox hg; have hnb46 := NB369_367.out; have hnc46 := NB367_369.out; obtain ⟨hcz47_0, hcz47_1, hcz47_2, hfz47_0, hfz47_1, hfz47_2⟩ := bx3_ BK369.out) | (go_at_call 68; (with_reducible refine (spec_PairOk.calls k ((rd_T63 l1_2 a2).f0.f0) ((rd_T63 l1_2 a2).f0.f1) false _ A6.out).mono ?_); rintro e w48 ⟨rfl, hb⟩; replace BK367 := q_ (blk_below (g := gb367) (o := .cells #[.int .i64 a1_0, .int .i64 a1_1, .slice (some ad368) l1_2.length c1_2] 44 (0, 0)) (by (with_reducible repeat (first | refine blk_drewN ?_ _ | refine blk_drew ?_ | refine blk_alloc ?_ _)); refine blk_far ?_ NB367_369.out _; (with_reducible repeat (first | refine blk_drewN ?_ _ | refine blk_drew ?_ | refine blk_alloc ?_ _)); refine blk_far ?_ NB367_369.out _; (with_reducible repeat (first | refine blk_drewN ?_ _ | refine blk_drew ?_ | refine blk_alloc ?_ _)); refine blk_far ?_ NB367_369.out _; (with_reducible repeat (first | refine blk_drewN ?_ _ | refine blk_drew ?_ | refine blk_alloc ?_ _)); exact BK367.out) hb); replace BK369 := q_ (blk_below (g := gb369) (o := .cells #[.string ((rd_T63 l1_2 a2).f0.f0), .string ((rd_T63 l1_2 a2).f0.f1), .slice A368_2 ((rd_T63 l1_2 a2).f1).length c368_2] 63 (0, 0)) (by (with_reducible repeat (first | refine blk_drewN ?_ _ | refine blk_drew ?_ | refine blk_alloc ?_ _)); refine blk_put (cs := #[.string ((rd_T63 l1_2 a2).f0.f0), .string ((rd_T63 l1_2 a2).f0.f1), .slice none 0 0]) ?_ 2 _ rfl; (with_reducible repeat (first | refine blk_drewN ?_ _ | refine blk_drew ?_ | refine blk_alloc ?_ _)); refine blk_put (cs := #[.string ((rd_T63 l1_2 a2).f0.f0), .string (⟨#[]⟩ : ByteArray), .slice none 0 0]) ?_ 1 _ rfl; (with_reducible repeat (first | refine blk_drewN ?_ _ | refine blk_drew ?_ | refine blk_alloc ?_ _)); refine blk_put (cs := #[.string (⟨#[]⟩ : ByteArray), .string (⟨#[]⟩ : ByteArray), .slice none 0 0]) ?_ 0 _ rfl; (with_reducible repeat (first | refine blk_drewN ?_ _ | refine blk_drew ?_ | refine blk_alloc ?_ _)); exact BK369.out) hb); replace HB := q_ (below_step (b2_ HB.out GE367.out GE369.out) hb); (try clear hb)))
    repeat (go_quiet (first | ((with_reducible refine gate_dst (N := 4) rfl ?_); refine box_event rfl (N := 4) rfl (cs := #[.int .i64 a1_0, .int .i64 a1_1, .slice A1_2 l1_2.length c1_2]) (t := 44) hr_ ?_; intro gb367 hg w43 hbox hb; have BK367 := q_ (hbox); have GW367 := q_ ((by rw [hg]; exact (below_size (be_ HB.out)) : w.heap.size ≤ gb367)); have GE367 := q_ ((by rw [hg]; exact (below_size (be_ HB.out)) : w.heap.size ≤ gb367)); replace HB := q_ (below_step (be_ HB.out) hb); clear hb hbox hg; obtain ⟨hcz44_0, hcz44_1, hcz44_2, hfz44_0, hfz44_1, hfz44_2⟩ := bx3_ BK367.out; have p368 : 0 ≤ (a2 : Int) := od_; have q368 : a2 < (l1_2.length : Int) := od_; obtain ⟨ad368, A368_2, c368_2, e368, hx368_0, hx368_1, hx368_2, hl368_2, hi368_2⟩ := at_T63 HR1_2.out a2 p368 q368; cases e368; replace hx368_0 := (HB.out.cell (World.block_lt_of_cell? w _ hx368_0)).trans hx368_0; replace hx368_1 := (HB.out.cell (World.block_lt_of_cell? w _ hx368_1)).trans hx368_1; replace hx368_2 := (HB.out.cell (World.block_lt_of_cell? w _ hx368_2)).trans hx368_2; have HR368_2 := Aside0.mk hi368_2; have HC368_2 := Aside0.mk hl368_2; clear hi368_2 hl368_2; replace p368 := eq_true p368; replace q368 := eq_true q368) | ((with_reducible refine gate_dst (N := 7) rfl ?_); refine box_event rfl (N := 7) rfl (cs := #[.string (⟨#[]⟩ : ByteArray), .string (⟨#[]⟩ : ByteArray), .slice none 0 0]) (t := 63) hr_ ?_; intro gb369 hg w45 hbox hb; have BK369 := q_ (hbox); have GW369 := q_ ((by rw [hg]; exact (below_size (bs_ HB.out GE367.out)) : w.heap.size ≤ gb369)); have GE369 := q_ ((by rw [hg]; exact (below_size (bs_ HB.out GE367.out)) : w.heap.size ≤ gb369)); replace HB := q_ (below_step (bs_ HB.out GE367.out) hb); have NB367_369 := q_ ((by rw [hg]; exact Nat.ne_of_lt (blk_lt (g := gb367) (o := .cells #[.int .i64 a1_0, .int .i64 a1_1, .slice (some ad368) l1_2.length c1_2] 44 (0, 0)) (bk_ BK367.out)) : gb367 ≠ gb369)); have NB369_367 := q_ ((by rw [hg]; exact Nat.ne_of_gt (blk_lt (g := gb367) (o := .cells #[.int .i64 a1_0, .int .i64 a1_1, .slice (some ad368) l1_2.length c1_2] 44 (0, 0)) (bk_ BK367.out)) : gb369 ≠ gb367)); replace BK367 := q_ (bb_ BK367.out hb); clear hb hbox hg; have hnb46 := NB369_367.out; have hnc46 := NB367_369.out; obtain ⟨hcz47_0, hcz47_1, hcz47_2, hfz47_0, hfz47_1, hfz47_2⟩ := bx3_ BK369.out) | (go_at_call 68; (with_reducible refine (spec_PairOk.calls k ((rd_T63 l1_2 a2).f0.f0) ((rd_T63 l1_2 a2).f0.f1) false _ A6.out).mono ?_); rintro e w48 ⟨rfl, hb⟩; replace BK367 := q_ (blk_below (g := gb367) (o := .cells #[.int .i64 a1_0, .int .i64 a1_1, .slice (some ad368) l1_2.length c1_2] 44 (0, 0)) (by (with_reducible repeat (first | refine blk_drewN ?_ _ | refine blk_drew ?_ | refine blk_alloc ?_ _)); refine blk_far ?_ NB367_369.out _; (with_reducible repeat (first | refine blk_drewN ?_ _ | refine blk_drew ?_ | refine blk_alloc ?_ _)); refine blk_far ?_ NB367_369.out _; (with_reducible repeat (first | refine blk_drewN ?_ _ | refine blk_drew ?_ | refine blk_alloc ?_ _)); refine blk_far ?_ NB367_369.out _; (with_reducible repeat (first | refine blk_drewN ?_ _ | refine blk_drew ?_ | refine blk_alloc ?_ _)); exact BK367.out) hb); replace BK369 := q_ (blk_below (g := gb369) (o := .cells #[.string ((rd_T63 l1_2 a2).f0.f0), .string ((rd_T63 l1_2 a2).f0.f1), .slice A368_2 ((rd_T63 l1_2 a2).f1).length c368_2] 63 (0, 0)) (by (with_reducible repeat (first | refine blk_drewN ?_ _ | refine blk_drew ?_ | refine blk_alloc ?_ _)); refine blk_put (cs := #[.string ((rd_T63 l1_2 a2).f0.f0), .string ((rd_T63 l1_2 a2).f0.f1), .slice none 0 0]) ?_ 2 _ rfl; (with_reducible repeat (first | refine blk_drewN ?_ _ | refine blk_drew ?_ | refine blk_alloc ?_ _)); refine blk_put (cs := #[.string ((rd_T63 l1_2 a2).f0.f0), .string (⟨#[]⟩ : ByteArray), .slice none 0 0]) ?_ 1 _ rfl; (with_reducible repeat (first | refine blk_drewN ?_ _ | refine blk_drew ?_ | refine blk_alloc ?_ _)); refine blk_put (cs := #[.string (⟨#[]⟩ : ByteArray), .string (⟨#[]⟩ : ByteArray), .slice none 0 0]) ?_ 0 _ rfl; (with_reducible repeat (first | refine blk_drewN ?_ _ | refine blk_drew ?_ | refine blk_alloc ?_ _)); exact BK369.out) hb); replace HB := q_ (below_step (b2_ HB.out GE367.out GE369.out) hb); (try clear hb))); try go_wp2_with (first | ((with_reducible refine gate_dst (N := 4) rfl ?_); refine box_event rfl (N := 4) rfl (cs := #[.int .i64 a1_0, .int .i64 a1_1, .slice A1_2 l1_2.length c1_2]) (t := 44) hr_ ?_; intro gb367 hg w43 hbox hb; have BK367 := q_ (hbox); have GW367 := q_ ((by rw [hg]; exact (below_size (be_ HB.out)) : w.heap.size ≤ gb367)); have GE367 := q_ ((by rw [hg]; exact (below_size (be_ HB.out)) : w.heap.size ≤ gb367)); replace HB := q_ (below_step (be_ HB.out) hb); clear hb hbox hg; obtain ⟨hcz44_0, hcz44_1, hcz44_2, hfz44_0, hfz44_1, hfz44_2⟩ := bx3_ BK367.out; have p368 : 0 ≤ (a2 : Int) := od_; have q368 : a2 < (l1_2.length : Int) := od_; obtain ⟨ad368, A368_2, c368_2, e368, hx368_0, hx368_1, hx368_2, hl368_2, hi368_2⟩ := at_T63 HR1_2.out a2 p368 q368; cases e368; replace hx368_0 := (HB.out.cell (World.block_lt_of_cell? w _ hx368_0)).trans hx368_0; replace hx368_1 := (HB.out.cell (World.block_lt_of_cell? w _ hx368_1)).trans hx368_1; replace hx368_2 := (HB.out.cell (World.block_lt_of_cell? w _ hx368_2)).trans hx368_2; have HR368_2 := Aside0.mk hi368_2; have HC368_2 := Aside0.mk hl368_2; clear hi368_2 hl368_2; replace p368 := eq_true p368; replace q368 := eq_true q368) | ((with_reducible refine gate_dst (N := 7) rfl ?_); refine box_event rfl (N := 7) rfl (cs := #[.string (⟨#[]⟩ : ByteArray), .string (⟨#[]⟩ : ByteArray), .slice none 0 0]) (t := 63) hr_ ?_; intro gb369 hg w45 hbox hb; have BK369 := q_ (hbox); have GW369 := q_ ((by rw [hg]; exact (below_size (bs_ HB.out GE367.out)) : w.heap.size ≤ gb369)); have GE369 := q_ ((by rw [hg]; exact (below_size (bs_ HB.out GE367.out)) : w.heap.size ≤ gb369)); replace HB := q_ (below_step (bs_ HB.out GE367.out) hb); have NB367_369 := q_ ((by rw [hg]; exact Nat.ne_of_lt (blk_lt (g := gb367) (o := .cells #[.int .i64 a1_0, .int .i64 a1_1, .slice (some ad368) l1_2.length c1_2] 44 (0, 0)) (bk_ BK367.out)) : gb367 ≠ gb369)); have NB369_367 := q_ ((by rw [hg]; exact Nat.ne_of_gt (blk_lt (g := gb367) (o := .cells #[.int .i64 a1_0, .int .i64 a1_1, .slice (some ad368) l1_2.length c1_2] 44 (0, 0)) (bk_ BK367.out)) : gb369 ≠ gb367)); replace BK367 := q_ (bb_ BK367.out hb); clear hb hbox hg; have hnb46 := NB369_367.out; have hnc46 := NB367_369.out; obtain ⟨hcz47_0, hcz47_1, hcz47_2, hfz47_0, hfz47_1, hfz47_2⟩ := bx3_ BK369.out) | (go_at_call 68; (with_reducible refine (spec_PairOk.calls k ((rd_T63 l1_2 a2).f0.f0) ((rd_T63 l1_2 a2).f0.f1) false _ A6.out).mono ?_); rintro e w48 ⟨rfl, hb⟩; replace BK367 := q_ (blk_below (g := gb367) (o := .cells #[.int .i64 a1_0, .int .i64 a1_1, .slice (some ad368) l1_2.length c1_2] 44 (0, 0)) (by (with_reducible repeat (first | refine blk_drewN ?_ _ | refine blk_drew ?_ | refine blk_alloc ?_ _)); refine blk_far ?_ NB367_369.out _; (with_reducible repeat (first | refine blk_drewN ?_ _ | refine blk_drew ?_ | refine blk_alloc ?_ _)); refine blk_far ?_ NB367_369.out _; (with_reducible repeat (first | refine blk_drewN ?_ _ | refine blk_drew ?_ | refine blk_alloc ?_ _)); refine blk_far ?_ NB367_369.out _; (with_reducible repeat (first | refine blk_drewN ?_ _ | refine blk_drew ?_ | refine blk_alloc ?_ _)); exact BK367.out) hb); replace BK369 := q_ (blk_below (g := gb369) (o := .cells #[.string ((rd_T63 l1_2 a2).f0.f0), .string ((rd_T63 l1_2 a2).f0.f1), .slice A368_2 ((rd_T63 l1_2 a2).f1).length c368_2] 63 (0, 0)) (by (with_reducible repeat (first | refine blk_drewN ?_ _ | refine blk_drew ?_ | refine blk_alloc ?_ _)); refine blk_put (cs := #[.string ((rd_T63 l1_2 a2).f0.f0), .string ((rd_T63 l1_2 a2).f0.f1), .slice none 0 0]) ?_ 2 _ rfl; (with_reducible repeat (first | refine blk_drewN ?_ _ | refine blk_drew ?_ | refine blk_alloc ?_ _)); refine blk_put (cs := #[.string ((rd_T63 l1_2 a2).f0.f0), .string (⟨#[]⟩ : ByteArray), .slice none 0 0]) ?_ 1 _ rfl; (with_reducible repeat (first | refine blk_drewN ?_ _ | refine blk_drew ?_ | refine blk_alloc ?_ _)); refine blk_put (cs := #[.string (⟨#[]⟩ : ByteArray), .string (⟨#[]⟩ : ByteArray), .slice none 0 0]) ?_ 0 _ rfl; (with_reducible repeat (first | refine blk_drewN ?_ _ | refine blk_drew ?_ | refine blk_alloc ?_ _)); exact BK369.out) hb); replace HB := q_ (below_step (b2_ HB.out GE367.out GE369.out) hb); (try clear hb))))
    go_ret
    exact ⟨rf_, b2_ HB.out GE367.out GE369.out⟩

/-! ###  spec_l3In: function 73 -/
def spec_l3In.f (a0 : ByteArray) (a1 : ByteArray) (a2 : ByteArray) : Option (Bool) := if ((Op.bytesLess a0.toList a1.toList) = true) then (some false) else (if a2.toList = ([] : List UInt8) then (some true) else (some (Op.bytesLess a0.toList a2.toList)))
set_option maxHeartbeats 8000000 in
set_option maxRecDepth 100000 in
theorem spec_l3In.calls (a0 : ByteArray) (a1 : ByteArray) (a2 : ByteArray) (r : Bool) (w : World) (h : spec_l3In.f a0 a1 a2 = some r) :
  Calls Try.prog 73 #[.string a0, .string a1, .string a2] w fun e w' => e = .returned (.bool r) ∧ Drawn0 w w' := by
  have H : (if ((Op.bytesLess a0.toList a1.toList) = true) then (some false) else (if a2.toList = ([] : List UInt8) then (some true) else (some (Op.bytesLess a0.toList a2.toList)))) = some r := h
  clear h
  by_cases c4 : ((Op.bytesLess a0.toList a1.toList) = true)
  · rw [if_pos c4] at H
    have c4b0 : (Op.bytesLess a0.toList a1.toList) = true := c4
    clear c4
    obtain rfl := Option.some.inj H
    go_enter Try.func73, Try.ntmps73
    go_wp2
    go_ret
    exact ⟨rs_, by repeat (first | exact Drawn0.refl _ | apply Drawn0.step)⟩
  · rw [if_neg c4] at H
    have c4b0 : (Op.bytesLess a0.toList a1.toList) = false := by simpa using c4
    clear c4
    by_cases c5 : a2.toList = ([] : List UInt8)
    · rw [if_pos c5] at H
      have c5b0 : (a2.toList == ([] : List UInt8)) = true := beq_iff_eq.mpr c5
      have c5b1 : (a2.toList != ([] : List UInt8)) = false := bne_eq_false_iff_eq.mpr c5
      clear c5
      obtain rfl := Option.some.inj H
      go_enter Try.func73, Try.ntmps73
      go_wp2
      go_ret
      exact ⟨rs_, by repeat (first | exact Drawn0.refl _ | apply Drawn0.step)⟩
    · rw [if_neg c5] at H
      have c5b0 : (a2.toList == ([] : List UInt8)) = false := beq_eq_false_iff_ne.mpr c5
      have c5b1 : (a2.toList != ([] : List UInt8)) = true := bne_iff_ne.mpr c5
      obtain rfl := Option.some.inj H
      go_enter Try.func73, Try.ntmps73
      go_wp2
      go_ret
      exact ⟨rs_, by repeat (first | exact Drawn0.refl _ | apply Drawn0.step)⟩

end Go.Proofs.Ytgaalomhipfgjaa.P
