-- Written by wip/xp/xp.py over the kit's print; Lean checks it.
import Derived.Test.YtnjifkljamdfdaaPx0
import Derived.Test.YtnjifkljamdfdaaPx4
import Derived.Test.YtnjifkljamdfdaaPx16
import Derived.Test.YtnjifkljamdfdaaPx22
import Derived.Test.YtnjifkljamdfdaaPx53
namespace Go.Proofs.Ytnjifkljamdfdaa.P
open Go.RowKit Go.Proofs.YtnjifkljamdfdaaW.PrintWords Go.Proofs.YtnjifkljamdfdaaW.PrintLast Go.Proofs.YtnjifkljamdfdaaW.PrintMore
attribute [local go_sem] max2_int min2_int max_two min_two max_three min_three max_four min_four   -- for this text's walks alone
set_option linter.unusedVariables false
set_option linter.unusedSimpArgs false

/-! ### spec_l4Hashed: function 117 -/
mutual
def spec_l4Hashed.j0 : Nat → List Int → Int → List ByteArray → ByteArray → Int → Int → Int → Option (List ByteArray × Bool)
  | 0, _, _, _, _, _, _, _ => none
  | k + 1, x0, x1, x3, x10, x11, x12, x13 => if 0 ≤ (wrap64 ((x3.length : Int) - 1)) then (if (wrap64 ((x3.length : Int) - 1)) ≤ (x3.length : Int) then ((spec_l4Hashed.f k x0 x13 x12 (x3.take ((wrap64 ((x3.length : Int) - 1)) : Int).toNat)).bind fun bt785 => (if bt785.2 = true then (if 0 ≤ (wrap64 ((bt785.1.length : Int) - 1)) then (if (wrap64 ((bt785.1.length : Int) - 1)) < (bt785.1.length : Int) then (if (rdOf ByteArray.empty bt785.1 (wrap64 ((bt785.1.length : Int) - 1))).size ≤ 9223372036854775807 then ((spec_Digest.f k (bytesOf (rdOf ByteArray.empty bt785.1 (wrap64 ((bt785.1.length : Int) - 1))))).bind fun t797 => (if x1 < x11 then ((spec_l4Node.f t797 x10).bind fun t798 => (if bt785.1.length < 8796093022208 then (some ((bt785.1 ++ [strOfNums t798]), true)) else (none))) else ((spec_l4Node.f x10 t797).bind fun t804 => (if bt785.1.length < 8796093022208 then (some ((bt785.1 ++ [strOfNums t804]), true)) else (none))))) else (none)) else (none)) else (none)) else (some ((([] : List ByteArray)), false)))) else (none)) else (none)
def spec_l4Hashed.f : Nat → List Int → Int → Int → List ByteArray → Option (List ByteArray × Bool)
  | 0, _, _, _, _ => none
  | k + 1, l0, a1, a2, l3 => if a2 < 2 then (some ((([strOfNums l0] : List ByteArray)), ((l3.length : Int) == 0))) else (if (l3.length : Int) = 0 then (some ((([] : List ByteArray)), false)) else (if 0 ≤ (wrap64 ((l3.length : Int) - 1)) then (if (wrap64 ((l3.length : Int) - 1)) < (l3.length : Int) then ((spec_l4Half.f k a2).bind fun t783 => (if a1 ≥ t783 then (spec_l4Hashed.j0 k l0 a1 l3 (rdOf ByteArray.empty l3 (wrap64 ((l3.length : Int) - 1))) t783 (wrap64 (a2 - t783)) (wrap64 (a1 - t783))) else (spec_l4Hashed.j0 k l0 a1 l3 (rdOf ByteArray.empty l3 (wrap64 ((l3.length : Int) - 1))) t783 t783 a1))) else (none)) else (none)))
end
set_option maxHeartbeats 8000000 in
set_option maxRecDepth 100000 in
theorem spec_l4Hashed.calls (k : Nat) : ∀ (A0 : Option Addr) (c0 : Nat) (l0 : List Int) (a1 : Int) (a2 : Int) (A3 : Option Addr) (c3 : Nat) (l3 : List ByteArray) (r1 : List ByteArray) (r2 : Bool) (w : World) (hr0 : Kd.C (Kd.int .u8) w A0 l0.length l0) (hc0 : l0.length ≤ c0) (hr3 : Kd.C Kd.string w A3 l3.length l3) (hc3 : l3.length ≤ c3) (h : spec_l4Hashed.f k l0 a1 a2 l3 = some (r1, r2)),
    Calls Try.prog 117 #[.slice A0 l0.length c0, .int .i64 a1, .int .i64 a2, .slice A3 l3.length c3] w fun e w' => ∃ v0_ : Value, e = .returned (.tuple #[v0_, .bool r2]) ∧ Kd.R Kd.string 9 w' w.heap.size (fun _ => True) v0_ r1 ∧ Below w.heap.size w w' := by
  induction k using Nat.strongRecOn with
  | _ k ih =>
  intro A0 c0 l0 a1 a2 A3 c3 l3 r1 r2 w hr0 hc0 hr3 hc3 h
  cases k with
  | zero => exact absurd h (by simp [spec_l4Hashed.f])
  | succ k =>
  simp only [spec_l4Hashed.f] at h
  have HR0 := Aside0.mk hr0
  have HC0 := Aside0.mk hc0
  clear hr0 hc0
  have HR3 := Aside0.mk hr3
  have HC3 := Aside0.mk hc3
  clear hr3 hc3
  have HB := Aside0.mk (Below.refl w.heap.size w)
  have H : (if a2 < 2 then (some ((([strOfNums l0] : List ByteArray)), ((l3.length : Int) == 0))) else (if (l3.length : Int) = 0 then (some ((([] : List ByteArray)), false)) else (if 0 ≤ (wrap64 ((l3.length : Int) - 1)) then (if (wrap64 ((l3.length : Int) - 1)) < (l3.length : Int) then ((spec_l4Half.f k a2).bind fun t783 => (if a1 ≥ t783 then (spec_l4Hashed.j0 k l0 a1 l3 (rdOf ByteArray.empty l3 (wrap64 ((l3.length : Int) - 1))) t783 (wrap64 (a2 - t783)) (wrap64 (a1 - t783))) else (spec_l4Hashed.j0 k l0 a1 l3 (rdOf ByteArray.empty l3 (wrap64 ((l3.length : Int) - 1))) t783 t783 a1))) else (none)) else (none)))) = some (r1, r2) := h
  clear h
  by_cases c5 : a2 < 2
  · rw [if_pos c5] at H
    have c5b0 : decide (a2 < 2) = true := decide_eq_true c5
    clear c5
    obtain ⟨y776, hy776⟩ : ∃ y_ : List ByteArray, y_ = (([strOfNums l0] : List ByteArray)) := ⟨_, rfl⟩
    replace H : (some (y776, ((l3.length : Int) == 0))) = some (r1, r2) := by first | (rw [hy776]; with_reducible exact H) | (have H2_ := (Option.bind_some _ _).symm.trans H; rw [hy776]; with_reducible exact H2_) | (have H2_ := (Option.bind_some _ _).symm.trans H; with_reducible exact H2_) | with_reducible exact H | (rw [hy776]; exact H) | exact H
    have Ny776 := Aside0.mk hy776
    clear hy776
    simp only [Option.some.injEq, Prod.mk.injEq] at H
    obtain ⟨rfl, rfl⟩ := H
    have hcv6 := Kd.C_string (P := Try.prog) (A := A0) (c := c0) Try.underlying22 Try.underlying5 Try.underlying9 HR0.out
    have hcv7d := fun n_ => Kd.C_string (P := Try.prog) (A := A0) (c := c0) Try.underlying22 Try.underlying5 Try.underlying9 (Kd.C_drewN HR0.out n_)
    go_enter Try.func117, Try.ntmps117
    go_wp2_with (first | ((with_reducible refine gate_dst (N := 21) rfl ?_); refine Kd.R_lit Kd.string _ 9 ?hg (N := 21) ?hd (xs := ([strOfNums l0] : List ByteArray)) (inner := [.string (strOfNums l0)]) (ok := fun _ => True) (okp := fun _ => True) ?hr ?hp (fun _ hk => hk) trivial (Below.refl _ _) (Nat.le_refl _) (by simp) ?_; (case hd => rfl); (case hg => rfl); (case hr => first | (go_simp; done) | (go_simp; rfl)); (case hp => exact (Reps.one (show Kd.M Kd.string _ _ _ (strOfNums l0) [.string (strOfNums l0)] from rfl) (Reps.none _ _))); intro v777 w8 ho9 hb hg_ hnew_; clear hg_ hnew_; (first | rw [← Ny776.out] at ho9 | (simp only [Int.reduceToNat] at ho9; rw [← Ny776.out] at ho9)); have n0_ := Aside0.mk (Kd.R_lower ho9 (below_size (by repeat (first | (with_reducible first | exact HB.out | apply below_alloc | apply pw_below_drewN | apply below_drew1) | exact HB.out)))); have n1_ := Aside0.mk (below_step (by repeat (first | (with_reducible first | exact HB.out | apply below_alloc | apply pw_below_drewN | apply below_drew1) | exact HB.out)) hb); clear HB; have HO778 := n0_; have HB := n1_; clear n0_ n1_; clear hb ho9))
    go_ret2
    exact ⟨_, by first | rfl | (simp [errW_none, errW_some] <;> rfl) | (simp [*, errW_none, errW_some] <;> rfl), by (with_reducible repeat (first | apply Kd.R_alloc | apply Kd.R_drewN | apply Kd.R_drew)); exact HO778.out, by repeat (first | (with_reducible first | exact HB.out | apply below_alloc | apply pw_below_drewN | apply below_drew1) | exact HB.out)⟩
  · rw [if_neg c5] at H
    have c5b0 : decide (a2 < 2) = false := decide_eq_false c5
    clear c5
    by_cases c10 : (l3.length : Int) = 0
    · rw [if_pos c10] at H
      have c10b0 : ((l3.length : Int) == 0) = true := beq_iff_eq.mpr c10
      have c10b1 : ((l3.length : Int) != 0) = false := bne_eq_false_iff_eq.mpr c10
      clear c10
      obtain ⟨y779, hy779⟩ : ∃ y_ : List ByteArray, y_ = (([] : List ByteArray)) := ⟨_, rfl⟩
      replace H : (some (y779, false)) = some (r1, r2) := by first | (rw [hy779]; with_reducible exact H) | (have H2_ := (Option.bind_some _ _).symm.trans H; rw [hy779]; with_reducible exact H2_) | (have H2_ := (Option.bind_some _ _).symm.trans H; with_reducible exact H2_) | with_reducible exact H | (rw [hy779]; exact H) | exact H
      have Ny779 := Aside0.mk hy779
      clear hy779
      simp only [Option.some.injEq, Prod.mk.injEq] at H
      obtain ⟨rfl, rfl⟩ := H
      go_enter Try.func117, Try.ntmps117
      go_wp2_with (first | ((with_reducible refine gate_dst (N := 28) rfl ?_); refine Kd.R_lit Kd.string _ 9 ?hg (N := 28) ?hd (xs := ([] : List ByteArray)) (inner := []) (ok := fun _ => True) (okp := fun _ => True) ?hr ?hp (fun _ hk => hk) trivial (Below.refl _ _) (Nat.le_refl _) (by simp) ?_; (case hd => rfl); (case hg => rfl); (case hr => first | (go_simp; done) | (go_simp; rfl)); (case hp => exact (Reps.none _ _)); intro v780 w11 ho12 hb hg_ hnew_; clear hg_ hnew_; (first | rw [← Ny779.out] at ho12 | (simp only [Int.reduceToNat] at ho12; rw [← Ny779.out] at ho12)); have n0_ := Aside0.mk (Kd.R_lower ho12 (below_size (by repeat (first | (with_reducible first | exact HB.out | apply below_alloc | apply pw_below_drewN | apply below_drew1) | exact HB.out)))); have n1_ := Aside0.mk (below_step (by repeat (first | (with_reducible first | exact HB.out | apply below_alloc | apply pw_below_drewN | apply below_drew1) | exact HB.out)) hb); clear HB; have HO781 := n0_; have HB := n1_; clear n0_ n1_; clear hb ho12))
      go_ret2
      exact ⟨_, by first | rfl | (simp [errW_none, errW_some] <;> rfl) | (simp [*, errW_none, errW_some] <;> rfl), by (with_reducible repeat (first | apply Kd.R_alloc | apply Kd.R_drewN | apply Kd.R_drew)); exact HO781.out, by repeat (first | (with_reducible first | exact HB.out | apply below_alloc | apply pw_below_drewN | apply below_drew1) | exact HB.out)⟩
    · rw [if_neg c10] at H
      have c10b0 : ((l3.length : Int) == 0) = false := beq_eq_false_iff_ne.mpr c10
      have c10b1 : ((l3.length : Int) != 0) = true := bne_iff_ne.mpr c10
      have c10b2 : ¬ (l3 = []) := fun h_ => c10 (by rw [h_]; rfl)
      obtain ⟨ji13, hji13⟩ : ∃ j_ : Int, (wrap64 ((l3.length : Int) - 1)) = j_ := ⟨_, rfl⟩
      replace H : (if 0 ≤ (ji13) then (if (ji13) < (l3.length : Int) then ((spec_l4Half.f k a2).bind fun t783 => (if a1 ≥ t783 then (spec_l4Hashed.j0 k l0 a1 l3 (rdOf ByteArray.empty l3 (ji13)) t783 (wrap64 (a2 - t783)) (wrap64 (a1 - t783))) else (spec_l4Hashed.j0 k l0 a1 l3 (rdOf ByteArray.empty l3 (ji13)) t783 t783 a1))) else (none)) else (none)) = some (r1, r2) := by first | (rw [hji13] at H; exact H) | (simp only [hji13] at H ⊢; exact H)
      have hji13w : (IntKind.i64.wrap ((l3.length : Int) - 1)) = ji13 := (i64_w _).trans hji13
      by_cases c14 : 0 ≤ (ji13)
      · rw [if_pos c14] at H
        have c14b0 : decide (0 ≤ (ji13)) = true := decide_eq_true c14
        clear c14
        by_cases c15 : (ji13) < (l3.length : Int)
        · rw [if_pos c15] at H
          have c15b0 : decide ((ji13) < (l3.length : Int)) = true := decide_eq_true c15
          clear c15
          replace H := Option.bind_eq_some_iff.mp H
          obtain ⟨t783, A160, H⟩ := H
          replace H : (if a1 ≥ t783 then (spec_l4Hashed.j0 k l0 a1 l3 (rdOf ByteArray.empty l3 (ji13)) t783 (wrap64 (a2 - t783)) (wrap64 (a1 - t783))) else (spec_l4Hashed.j0 k l0 a1 l3 (rdOf ByteArray.empty l3 (ji13)) t783 t783 a1)) = some (r1, r2) := H
          have A16 := Aside0.mk A160
          clear A160
          have HC17 := Aside0.mk H
          clear H
          have p782 : 0 ≤ ((ji13) : Int) := of_decide_eq_true (by first | (with_reducible assumption) | assumption)
          have q782 : (ji13) < (l3.length : Int) := of_decide_eq_true (by first | (with_reducible assumption) | assumption)
          obtain ⟨ad782, e782, hx782_0⟩ := Kd.at_string HR3.out (ji13) p782 q782
          cases e782
          replace p782 := eq_true p782
          replace q782 := eq_true q782
          go_enter Try.func117, Try.ntmps117
          go_upto_if 41 with (first | ((with_reducible refine gate_callee (f := 115) rfl ?_); refine goesL_ (some 36) rfl rfl Try.func115 (by kernel_rfl) rfl #[.int .i64 a2] rfl (by (try simp only [List.map_toArray, List.map_cons, List.map_nil]); first | done | rfl | (simp only [List.length_drop, List.length_take]; rfl)) ?_; (with_reducible refine (spec_l4Half.calls k a2 t783 _ A16.out).mono ?_); rintro e w' ⟨rfl, ⟨nd, rfl⟩⟩; refine ⟨_, rfl, ?_⟩))
          (try simp only [Act.put, List.setIfInBounds_toArray, List.set_cons_zero, List.set_cons_succ])
          go_cut [12, 13] (fun v12 v13 wc => ∃ (kq : Nat) (x12_16 : Int) (x13_16 : Int), v12 = .int .i64 x12_16 ∧ v13 = .int .i64 x13_16 ∧ Aside0 (spec_l4Hashed.j0 kq l0 a1 l3 (rdOf ByteArray.empty l3 (ji13)) t783 x12_16 x13_16 = some (r1, r2)) ∧ Aside0 (kq ≤ k) ∧ Aside0 (Below w.heap.size w wc))
          case first =>
            have H := HC17.out
            clear HC17
            by_cases c18 : a1 ≥ t783
            · rw [if_pos c18] at H
              have c18b0 : decide (t783 ≤ a1) = true := decide_eq_true c18
              clear c18
              (first | rw [c18b0] | (simp only [i64_w, i32_w]; rw [c18b0]) | skip)
              have H' := Aside0.mk H
              clear H
              go_wp2
              go_meet
              case rel => exact ⟨_, (wrap64 (a2 - t783)), (wrap64 (a1 - t783)), (by first | rfl | (simp; done) | (simp [*]; done)), (by first | rfl | (simp; done) | (simp [*]; done)), H', ⟨by first | omega | exact Nat.le_refl _⟩, ⟨by repeat (first | (with_reducible first | exact HB.out | apply below_alloc | apply pw_below_drewN | apply below_drew1) | exact HB.out)⟩⟩
            · rw [if_neg c18] at H
              have c18b0 : decide (t783 ≤ a1) = false := decide_eq_false c18
              clear c18
              (first | rw [c18b0] | (simp only [i64_w, i32_w]; rw [c18b0]) | skip)
              have H' := Aside0.mk H
              clear H
              go_wp2
              go_meet
              case rel => exact ⟨_, (t783), (a1), (by first | rfl | (simp; done) | (simp [*]; done)), (by first | rfl | (simp; done) | (simp [*]; done)), H', ⟨by first | omega | exact Nat.le_refl _⟩, ⟨by repeat (first | (with_reducible first | exact HB.out | apply below_alloc | apply pw_below_drewN | apply below_drew1) | exact HB.out)⟩⟩
          case rest =>
            clear HC17
            try clear c1
            try clear p2
            try clear c3
            try clear c5
            try clear c5b0
            try clear p6
            try clear hcv6
            try clear p7
            try clear q7
            try clear hx7
            try clear hcv7
            try clear c10
            try clear c10b0
            try clear c10b1
            try clear c10b2
            try clear c11
            try clear c14
            try clear c14b0
            try clear c15
            try clear c15b0
            try clear c18
            try clear c18b0
            try clear hx782_0
            try clear p782
            try clear q782
            obtain ⟨kq, x12_16, x13_16, rfl, rfl, HA, HJ16, HB⟩ := hcut
            cases kq with
            | zero => exact absurd HA.out (by simp [spec_l4Hashed.j0])
            | succ kj16 =>
              have H := HA.out
              clear HA
              simp only [spec_l4Hashed.j0] at H
              obtain ⟨ji19, hji19⟩ : ∃ j_ : Int, (wrap64 ((l3.length : Int) - 1)) = j_ := ⟨_, rfl⟩
              (try clear hji13w); (try clear hji13)
              replace H : (if 0 ≤ (ji19) then (if (ji19) ≤ (l3.length : Int) then ((spec_l4Hashed.f kj16 l0 x13_16 x12_16 (l3.take ((ji19) : Int).toNat)).bind fun bt785 => (if bt785.2 = true then (if 0 ≤ (wrap64 ((bt785.1.length : Int) - 1)) then (if (wrap64 ((bt785.1.length : Int) - 1)) < (bt785.1.length : Int) then (if (rdOf ByteArray.empty bt785.1 (wrap64 ((bt785.1.length : Int) - 1))).size ≤ 9223372036854775807 then ((spec_Digest.f kj16 (bytesOf (rdOf ByteArray.empty bt785.1 (wrap64 ((bt785.1.length : Int) - 1))))).bind fun t797 => (if a1 < t783 then ((spec_l4Node.f t797 (rdOf ByteArray.empty l3 (ji13))).bind fun t798 => (if bt785.1.length < 8796093022208 then (some ((bt785.1 ++ [strOfNums t798]), true)) else (none))) else ((spec_l4Node.f (rdOf ByteArray.empty l3 (ji13)) t797).bind fun t804 => (if bt785.1.length < 8796093022208 then (some ((bt785.1 ++ [strOfNums t804]), true)) else (none))))) else (none)) else (none)) else (none)) else (some ((([] : List ByteArray)), false)))) else (none)) else (none)) = some (r1, r2) := by first | (rw [hji19] at H; exact H) | (simp only [hji19] at H ⊢; exact H)
              have hji19w : (IntKind.i64.wrap ((l3.length : Int) - 1)) = ji19 := (i64_w _).trans hji19
              by_cases c20 : 0 ≤ (ji19)
              · rw [if_pos c20] at H
                have c20b0 := eq_true c20
                have c20b1 : decide (0 ≤ (ji19)) = true := decide_eq_true c20
                clear c20
                by_cases c21 : (ji19) ≤ (l3.length : Int)
                · rw [if_pos c21] at H
                  have c21b0 := eq_true c21
                  have c21b1 : decide ((ji19) ≤ (l3.length : Int)) = true := decide_eq_true c21
                  clear c21
                  replace H := Option.bind_eq_some_iff.mp H
                  obtain ⟨⟨t785, t786⟩, A220, H⟩ := H
                  replace H : (if t786 = true then (if 0 ≤ (wrap64 ((t785.length : Int) - 1)) then (if (wrap64 ((t785.length : Int) - 1)) < (t785.length : Int) then (if (rdOf ByteArray.empty t785 (wrap64 ((t785.length : Int) - 1))).size ≤ 9223372036854775807 then ((spec_Digest.f kj16 (bytesOf (rdOf ByteArray.empty t785 (wrap64 ((t785.length : Int) - 1))))).bind fun t797 => (if a1 < t783 then ((spec_l4Node.f t797 (rdOf ByteArray.empty l3 (ji13))).bind fun t798 => (if t785.length < 8796093022208 then (some ((t785 ++ [strOfNums t798]), true)) else (none))) else ((spec_l4Node.f (rdOf ByteArray.empty l3 (ji13)) t797).bind fun t804 => (if t785.length < 8796093022208 then (some ((t785 ++ [strOfNums t804]), true)) else (none))))) else (none)) else (none)) else (none)) else (some ((([] : List ByteArray)), false))) = some (r1, r2) := H
                  have A22 := Aside0.mk A220
                  clear A220
                  by_cases c23 : t786 = true
                  · subst c23
                    have H1 : (if 0 ≤ (wrap64 ((t785.length : Int) - 1)) then (if (wrap64 ((t785.length : Int) - 1)) < (t785.length : Int) then (if (rdOf ByteArray.empty t785 (wrap64 ((t785.length : Int) - 1))).size ≤ 9223372036854775807 then ((spec_Digest.f kj16 (bytesOf (rdOf ByteArray.empty t785 (wrap64 ((t785.length : Int) - 1))))).bind fun t797 => (if a1 < t783 then ((spec_l4Node.f t797 (rdOf ByteArray.empty l3 (ji13))).bind fun t798 => (if t785.length < 8796093022208 then (some ((t785 ++ [strOfNums t798]), true)) else (none))) else ((spec_l4Node.f (rdOf ByteArray.empty l3 (ji13)) t797).bind fun t804 => (if t785.length < 8796093022208 then (some ((t785 ++ [strOfNums t804]), true)) else (none))))) else (none)) else (none)) else (none)) = some (r1, r2) := by rw [if_pos rfl] at H; exact H
                    clear H
                    have H := H1
                    clear H1
                    obtain ⟨ji24, hji24⟩ : ∃ j_ : Int, (wrap64 ((t785.length : Int) - 1)) = j_ := ⟨_, rfl⟩
                    replace H : (if 0 ≤ (ji24) then (if (ji24) < (t785.length : Int) then (if (rdOf ByteArray.empty t785 (ji24)).size ≤ 9223372036854775807 then ((spec_Digest.f kj16 (bytesOf (rdOf ByteArray.empty t785 (ji24)))).bind fun t797 => (if a1 < t783 then ((spec_l4Node.f t797 (rdOf ByteArray.empty l3 (ji13))).bind fun t798 => (if t785.length < 8796093022208 then (some ((t785 ++ [strOfNums t798]), true)) else (none))) else ((spec_l4Node.f (rdOf ByteArray.empty l3 (ji13)) t797).bind fun t804 => (if t785.length < 8796093022208 then (some ((t785 ++ [strOfNums t804]), true)) else (none))))) else (none)) else (none)) else (none)) = some (r1, r2) := by first | (rw [hji24] at H; exact H) | (simp only [hji24] at H ⊢; exact H)
                    (try rw [hji24] at A22)
                    have hji24w : (IntKind.i64.wrap ((t785.length : Int) - 1)) = ji24 := (i64_w _).trans hji24
                    by_cases c25 : 0 ≤ (ji24)
                    · rw [if_pos c25] at H
                      have c25b0 : decide (0 ≤ (ji24)) = true := decide_eq_true c25
                      clear c25
                      by_cases c26 : (ji24) < (t785.length : Int)
                      · rw [if_pos c26] at H
                        have c26b0 : decide ((ji24) < (t785.length : Int)) = true := decide_eq_true c26
                        clear c26
                        by_cases c27 : (rdOf ByteArray.empty t785 (ji24)).size ≤ 9223372036854775807
                        · rw [if_pos c27] at H
                          have c27b0 := eq_true c27
                          have c27b1 : decide ((rdOf ByteArray.empty t785 (ji24)).size ≤ 9223372036854775807) = true := decide_eq_true c27
                          try have c27b2 : (9223372036854775807 < (rdOf ByteArray.empty t785 (ji24)).size) = False := eq_false (Nat.not_lt.2 c27)
                          clear c27
                          obtain ⟨y793, hy793⟩ : ∃ y_ : List Int, y_ = (bytesOf (rdOf ByteArray.empty t785 (ji24))) := ⟨_, rfl⟩
                          replace H : ((spec_Digest.f kj16 y793).bind fun t797 => (if a1 < t783 then ((spec_l4Node.f t797 (rdOf ByteArray.empty l3 (ji13))).bind fun t798 => (if t785.length < 8796093022208 then (some ((t785 ++ [strOfNums t798]), true)) else (none))) else ((spec_l4Node.f (rdOf ByteArray.empty l3 (ji13)) t797).bind fun t804 => (if t785.length < 8796093022208 then (some ((t785 ++ [strOfNums t804]), true)) else (none))))) = some (r1, r2) := by first | (rw [hy793]; with_reducible exact H) | (have H2_ := (Option.bind_some _ _).symm.trans H; rw [hy793]; with_reducible exact H2_) | (have H2_ := (Option.bind_some _ _).symm.trans H; with_reducible exact H2_) | with_reducible exact H | (rw [hy793]; exact H) | exact H
                          have Ny793 := Aside0.mk hy793
                          clear hy793
                          replace H := Option.bind_eq_some_iff.mp H
                          obtain ⟨t797, A280, H⟩ := H
                          replace H : (if a1 < t783 then ((spec_l4Node.f t797 (rdOf ByteArray.empty l3 (ji13))).bind fun t798 => (if t785.length < 8796093022208 then (some ((t785 ++ [strOfNums t798]), true)) else (none))) else ((spec_l4Node.f (rdOf ByteArray.empty l3 (ji13)) t797).bind fun t804 => (if t785.length < 8796093022208 then (some ((t785 ++ [strOfNums t804]), true)) else (none)))) = some (r1, r2) := H
                          have A28 := Aside0.mk A280
                          clear A280
                          by_cases c29 : a1 < t783
                          · rw [if_pos c29] at H
                            have c29b0 : decide (a1 < t783) = true := decide_eq_true c29
                            clear c29
                            replace H := Option.bind_eq_some_iff.mp H
                            obtain ⟨t798, A300, H⟩ := H
                            replace H : (if t785.length < 8796093022208 then (some ((t785 ++ [strOfNums t798]), true)) else (none)) = some (r1, r2) := H
                            have A30 := Aside0.mk A300
                            clear A300
                            by_cases c31 : t785.length < 8796093022208
                            · rw [if_pos c31] at H
                              have LMc31 := Aside0.mk c31
                              clear c31
                              obtain ⟨y801, hy801⟩ : ∃ y_ : List ByteArray, y_ = (t785 ++ [strOfNums t798]) := ⟨_, rfl⟩
                              replace H : (some (y801, true)) = some (r1, r2) := by first | (rw [hy801]; with_reducible exact H) | (have H2_ := (Option.bind_some _ _).symm.trans H; rw [hy801]; with_reducible exact H2_) | (have H2_ := (Option.bind_some _ _).symm.trans H; with_reducible exact H2_) | with_reducible exact H | (rw [hy801]; exact H) | exact H
                              have Ny801 := Aside0.mk hy801
                              clear hy801
                              simp only [Option.some.injEq, Prod.mk.injEq] at H
                              obtain ⟨rfl, rfl⟩ := H
                              obtain ⟨i032, hi032, _, hsz32, _⟩ := info_parts info9
                              obtain ⟨hcut32, hA32, hC32⟩ := print_take_of (P := Try.prog) Value.string (⟨#[]⟩ : ByteArray) 47 9 .i64 Try.underlying47 hi032 hsz32 (some ad782) c3 l3 (ji19) (of_decide_eq_true (by first | (with_reducible assumption) | assumption)) (of_decide_eq_true (by first | (with_reducible assumption) | assumption)) HC3.out
                              have HR784 := Aside0.mk (Kd.C_of_reads (h1 := fun _ => rfl) (hA32 _ (Kd.reads_of_C HR3.out)))
                              have HC784 := Aside0.mk hC32
                              clear hA32 hC32 hi032 hsz32
                              go_wp2_with (first | ((with_reducible refine gate_callee (f := 117) rfl ?_); refine goesL_ (some 57) rfl rfl Try.func117 (by kernel_rfl) rfl #[.slice A0 l0.length c0, .int .i64 x13_16, .int .i64 x12_16, .slice (some ad782) (l3.take ((ji19) : Int).toNat).length c3] rfl (by (try simp only [List.map_toArray, List.map_cons, List.map_nil]); first | done | (rw [show (l3.take ((ji19) : Int).toNat).length = (ji19).toNat from (by rw [List.length_take]; have h_ : ((ji19) : Int) ≤ (l3.length : Int) := of_decide_eq_true (by first | (with_reducible assumption) | assumption); omega)] <;> rfl) | (simp only [hji19]; rfl) | rfl | (simp only [List.length_drop, List.length_take]; rfl)) ?_; (with_reducible refine (ih kj16 (by have := HJ16.out; omega) _ _ l0 x13_16 x12_16 _ _ (l3.take ((ji19) : Int).toNat) t785 true _ ?side1 ?side2 ?side3 ?side4 A22.out).mono ?_); (case side1 => repeat (first | exact (Kd.C_below HR0.out HB.out) | (with_reducible refine Kd.C_alloc ?_ _) | (with_reducible refine Kd.C_drewN ?_ _) | (with_reducible refine Kd.C_drew ?_))); (case side2 => exact HC0.out); (case side3 => repeat (first | exact (Kd.C_below HR784.out HB.out) | (with_reducible refine Kd.C_alloc ?_ _) | (with_reducible refine Kd.C_drewN ?_ _) | (with_reducible refine Kd.C_drew ?_))); (case side4 => exact HC784.out); rintro e w33 ⟨v787, rfl, ho0, hb⟩; refine ⟨_, rfl, ?_⟩; have n0_ := Aside0.mk (Kd.R_lower ho0 (below_size (by repeat (first | (with_reducible first | exact HB.out | apply below_alloc | apply pw_below_drewN | apply below_drew1) | exact HB.out)))); have n1_ := Aside0.mk (below_step (by repeat (first | (with_reducible first | exact HB.out | apply below_alloc | apply pw_below_drewN | apply below_drew1) | exact HB.out)) hb); clear HB; have HO788 := n0_; have HB := n1_; clear n0_ n1_; (try clear hb); (try clear hb2); (try clear hk); (try clear hi); (try clear ho0); obtain ⟨Ao34, co34, eo34⟩ := Kd.R_slice HO788.out; subst eo34; have p792 : 0 ≤ ((ji24) : Int) := of_decide_eq_true (by first | (with_reducible assumption) | assumption); have q792 : (ji24) < (t785.length : Int) := of_decide_eq_true (by first | (with_reducible assumption) | assumption); obtain ⟨ad792, e792, hx792_0⟩ := Kd.at_string (Kd.R_reads' HO788.out).2.2 (ji24) p792 q792; cases e792; replace p792 := eq_true p792; replace q792 := eq_true q792) | ((with_reducible refine gate_dst (N := 69) rfl ?_); refine Kd.conv_event rfl 9 22 5 _ (rdOf ByteArray.empty t785 (ji24)) y793 rfl rfl Try.underlying9 Try.underlying22 Try.underlying5 Ny793.out (of_decide_eq_true (by first | (with_reducible assumption) | assumption)) ?_; intro g796 c796 w35 hr_ hc_ hb; have n0_ := Aside0.mk (Kd.R_below (by (with_reducible repeat (first | apply Kd.R_alloc | apply Kd.R_drewN | apply Kd.R_drew)); exact HO788.out) hb); have n1_ := Aside0.mk (below_step (by repeat (first | (with_reducible first | exact HB.out | apply below_alloc | apply pw_below_drewN | apply below_drew1) | exact HB.out)) hb); have n2_ := Aside0.mk (hr_); have n3_ := Aside0.mk (hc_); clear HO788; clear HB; have HO788 := n0_; have HB := n1_; have HR796 := n2_; have HC796 := n3_; clear n0_ n1_ n2_ n3_; clear hb hr_ hc_) | ((with_reducible refine gate_callee (f := 15) rfl ?_); refine goesL_ (some 70) rfl rfl Try.func15 (by kernel_rfl) rfl #[.slice (some ⟨g796, 0, none⟩) y793.length c796] rfl (by (try simp only [List.map_toArray, List.map_cons, List.map_nil]); first | done | rfl | (simp only [List.length_drop, List.length_take]; rfl)) ?_; (with_reducible refine (spec_Digest.calls kj16 _ _ y793 t797 _ ?side1 ?side2 A28.out).mono ?_); (case side1 => repeat (first | exact (by repeat (first | (with_reducible exact HR796.out) | (with_reducible refine Kd.C_alloc ?_ _) | (with_reducible refine Kd.C_drewN ?_ _) | (with_reducible refine Kd.C_drew ?_) | exact HR796.out)) | (with_reducible refine Kd.C_alloc ?_ _) | (with_reducible refine Kd.C_drewN ?_ _) | (with_reducible refine Kd.C_drew ?_))); (case side2 => exact HC796.out); rintro e w36 ⟨rfl, hb⟩; refine ⟨_, rfl, ?_⟩; have n0_ := Aside0.mk (Kd.R_below (by (with_reducible repeat (first | apply Kd.R_alloc | apply Kd.R_drewN | apply Kd.R_drew)); exact HO788.out) hb); have n1_ := Aside0.mk (Kd.C_below (by repeat (first | (with_reducible exact HR796.out) | (with_reducible refine Kd.C_alloc ?_ _) | (with_reducible refine Kd.C_drewN ?_ _) | (with_reducible refine Kd.C_drew ?_) | exact HR796.out)) hb); have n2_ := Aside0.mk (below_step (by repeat (first | (with_reducible first | exact HB.out | apply below_alloc | apply pw_below_drewN | apply below_drew1) | exact HB.out)) hb); clear HO788; clear HR796; clear HB; have HO788 := n0_; have HR796 := n1_; have HB := n2_; clear n0_ n1_ n2_; (try clear hb); (try clear hb2); (try clear hk); (try clear hi)) | ((with_reducible refine gate_callee (f := 62) rfl ?_); refine goesL_ (some 77) rfl rfl Try.func62 (by kernel_rfl) rfl #[.string t797, .string (rdOf ByteArray.empty l3 (ji13))] rfl (by (try simp only [List.map_toArray, List.map_cons, List.map_nil]); first | done | (simp only [hji13]; rfl) | rfl | (simp only [List.length_drop, List.length_take]; rfl)) ?_; (with_reducible refine (spec_l4Node.calls t797 (rdOf ByteArray.empty l3 (ji13)) t798 _ A30.out).mono ?_); rintro e w37 ⟨v799, rfl, ho0, hb⟩; refine ⟨_, rfl, ?_⟩; have n0_ := Aside0.mk (Kd.R_below (by (with_reducible repeat (first | apply Kd.R_alloc | apply Kd.R_drewN | apply Kd.R_drew)); exact HO788.out) hb); have n1_ := Aside0.mk (Kd.R_lower ho0 (below_size (by repeat (first | (with_reducible first | exact HB.out | apply below_alloc | apply pw_below_drewN | apply below_drew1) | exact HB.out)))); have n2_ := Aside0.mk (Kd.C_below (by repeat (first | (with_reducible exact HR796.out) | (with_reducible refine Kd.C_alloc ?_ _) | (with_reducible refine Kd.C_drewN ?_ _) | (with_reducible refine Kd.C_drew ?_) | exact HR796.out)) hb); have n3_ := Aside0.mk (below_step (by repeat (first | (with_reducible first | exact HB.out | apply below_alloc | apply pw_below_drewN | apply below_drew1) | exact HB.out)) hb); clear HO788; clear HR796; clear HB; have HO788 := n0_; have HO800 := n1_; have HR796 := n2_; have HB := n3_; clear n0_ n1_ n2_ n3_; (try clear hb); (try clear hb2); (try clear hk); (try clear hi); (try clear ho0); have hcv38 := own_string (P := Try.prog) Try.underlying22 Try.underlying5 Try.underlying9 (Kd.own_of_R HO800.out)) | ((with_reducible refine gate_builtin (b := .append) (xs := #[.tmp 74, .tmp 79]) rfl ?_); at_builtin; refine Kd.R_append Kd.string (w0 := w) w.heap.size rfl (.tmp 74) (.tmp 79) 47 9 (.string ⟨#[]⟩) 16 rfl Try.underlying47 info9 rfl (by decide) (by omega) (.slice (some ad792) t785.length co34) t785 (strOfNums t798) [.string (strOfNums t798)] (fun _ => True) (fun _ => False) rfl rfl ?aP (fun _ hk => hk.elim) ?aF ?aO ?aB ?aS ?aL ?_; (case aP => exact rfl); (case aB => exact (by repeat (first | (with_reducible first | exact HB.out | apply below_alloc | apply pw_below_drewN | apply below_drew1) | exact HB.out))); (case aF => exact (fun _ _ => trivial)); (case aO => exact (by (with_reducible repeat (first | apply Kd.R_alloc | apply Kd.R_drewN | apply Kd.R_drew)); exact HO788.out)); (case aS => exact (below_size (by repeat (first | (with_reducible first | exact HB.out | apply below_alloc | apply pw_below_drewN | apply below_drew1) | exact HB.out)))); (case aL => have := LMc31.out; omega); intro v802 w39 ho hb hg hat; rw [← Ny801.out] at ho; have n0_ := Aside0.mk (Kd.R_over' (by (with_reducible repeat (first | apply Kd.R_alloc | apply Kd.R_drewN | apply Kd.R_drew)); exact HO800.out) (Kd.R_typed (by (with_reducible repeat (first | apply Kd.R_alloc | apply Kd.R_drewN | apply Kd.R_drew)); exact HO788.out)) (by decide) hg); have n1_ := Aside0.mk (hb); have n2_ := Aside0.mk (ho); clear HO800; clear HB; clear HO788; have HO800 := n0_; have HB := n1_; have HO803 := n2_; clear n0_ n1_ n2_; clear ho hb hg hat))
                              go_ret2
                              exact ⟨_, by first | rfl | (simp [errW_none, errW_some] <;> rfl) | (simp only [← hji13, ← hji19, ← hji24]; first | rfl | (simp [errW_none, errW_some] <;> rfl)) | (simp [*, errW_none, errW_some] <;> rfl), by (with_reducible repeat (first | apply Kd.R_alloc | apply Kd.R_drewN | apply Kd.R_drew)); exact HO803.out, by repeat (first | (with_reducible first | exact HB.out | apply below_alloc | apply pw_below_drewN | apply below_drew1) | exact HB.out)⟩
                            · rw [if_neg c31] at H
                              exact absurd H (by simp)
                          · rw [if_neg c29] at H
                            have c29b0 : decide (a1 < t783) = false := decide_eq_false c29
                            clear c29
                            replace H := Option.bind_eq_some_iff.mp H
                            obtain ⟨t804, A400, H⟩ := H
                            replace H : (if t785.length < 8796093022208 then (some ((t785 ++ [strOfNums t804]), true)) else (none)) = some (r1, r2) := H
                            have A40 := Aside0.mk A400
                            clear A400
                            by_cases c41 : t785.length < 8796093022208
                            · rw [if_pos c41] at H
                              have LMc41 := Aside0.mk c41
                              clear c41
                              obtain ⟨y807, hy807⟩ : ∃ y_ : List ByteArray, y_ = (t785 ++ [strOfNums t804]) := ⟨_, rfl⟩
                              replace H : (some (y807, true)) = some (r1, r2) := by first | (rw [hy807]; with_reducible exact H) | (have H2_ := (Option.bind_some _ _).symm.trans H; rw [hy807]; with_reducible exact H2_) | (have H2_ := (Option.bind_some _ _).symm.trans H; with_reducible exact H2_) | with_reducible exact H | (rw [hy807]; exact H) | exact H
                              have Ny807 := Aside0.mk hy807
                              clear hy807
                              simp only [Option.some.injEq, Prod.mk.injEq] at H
                              obtain ⟨rfl, rfl⟩ := H
                              obtain ⟨i042, hi042, _, hsz42, _⟩ := info_parts info9
                              obtain ⟨hcut42, hA42, hC42⟩ := print_take_of (P := Try.prog) Value.string (⟨#[]⟩ : ByteArray) 47 9 .i64 Try.underlying47 hi042 hsz42 (some ad782) c3 l3 (ji19) (of_decide_eq_true (by first | (with_reducible assumption) | assumption)) (of_decide_eq_true (by first | (with_reducible assumption) | assumption)) HC3.out
                              have HR784 := Aside0.mk (Kd.C_of_reads (h1 := fun _ => rfl) (hA42 _ (Kd.reads_of_C HR3.out)))
                              have HC784 := Aside0.mk hC42
                              clear hA42 hC42 hi042 hsz42
                              go_wp2_with (first | ((with_reducible refine gate_callee (f := 117) rfl ?_); refine goesL_ (some 57) rfl rfl Try.func117 (by kernel_rfl) rfl #[.slice A0 l0.length c0, .int .i64 x13_16, .int .i64 x12_16, .slice (some ad782) (l3.take ((ji19) : Int).toNat).length c3] rfl (by (try simp only [List.map_toArray, List.map_cons, List.map_nil]); first | done | (rw [show (l3.take ((ji19) : Int).toNat).length = (ji19).toNat from (by rw [List.length_take]; have h_ : ((ji19) : Int) ≤ (l3.length : Int) := of_decide_eq_true (by first | (with_reducible assumption) | assumption); omega)] <;> rfl) | (simp only [hji19]; rfl) | rfl | (simp only [List.length_drop, List.length_take]; rfl)) ?_; (with_reducible refine (ih kj16 (by have := HJ16.out; omega) _ _ l0 x13_16 x12_16 _ _ (l3.take ((ji19) : Int).toNat) t785 true _ ?side1 ?side2 ?side3 ?side4 A22.out).mono ?_); (case side1 => repeat (first | exact (Kd.C_below HR0.out HB.out) | (with_reducible refine Kd.C_alloc ?_ _) | (with_reducible refine Kd.C_drewN ?_ _) | (with_reducible refine Kd.C_drew ?_))); (case side2 => exact HC0.out); (case side3 => repeat (first | exact (Kd.C_below HR784.out HB.out) | (with_reducible refine Kd.C_alloc ?_ _) | (with_reducible refine Kd.C_drewN ?_ _) | (with_reducible refine Kd.C_drew ?_))); (case side4 => exact HC784.out); rintro e w43 ⟨v787, rfl, ho0, hb⟩; refine ⟨_, rfl, ?_⟩; have n0_ := Aside0.mk (Kd.R_lower ho0 (below_size (by repeat (first | (with_reducible first | exact HB.out | apply below_alloc | apply pw_below_drewN | apply below_drew1) | exact HB.out)))); have n1_ := Aside0.mk (below_step (by repeat (first | (with_reducible first | exact HB.out | apply below_alloc | apply pw_below_drewN | apply below_drew1) | exact HB.out)) hb); clear HB; have HO788 := n0_; have HB := n1_; clear n0_ n1_; (try clear hb); (try clear hb2); (try clear hk); (try clear hi); (try clear ho0); obtain ⟨Ao44, co44, eo44⟩ := Kd.R_slice HO788.out; subst eo44; have p792 : 0 ≤ ((ji24) : Int) := of_decide_eq_true (by first | (with_reducible assumption) | assumption); have q792 : (ji24) < (t785.length : Int) := of_decide_eq_true (by first | (with_reducible assumption) | assumption); obtain ⟨ad792, e792, hx792_0⟩ := Kd.at_string (Kd.R_reads' HO788.out).2.2 (ji24) p792 q792; cases e792; replace p792 := eq_true p792; replace q792 := eq_true q792) | ((with_reducible refine gate_dst (N := 69) rfl ?_); refine Kd.conv_event rfl 9 22 5 _ (rdOf ByteArray.empty t785 (ji24)) y793 rfl rfl Try.underlying9 Try.underlying22 Try.underlying5 Ny793.out (of_decide_eq_true (by first | (with_reducible assumption) | assumption)) ?_; intro g796 c796 w45 hr_ hc_ hb; have n0_ := Aside0.mk (Kd.R_below (by (with_reducible repeat (first | apply Kd.R_alloc | apply Kd.R_drewN | apply Kd.R_drew)); exact HO788.out) hb); have n1_ := Aside0.mk (below_step (by repeat (first | (with_reducible first | exact HB.out | apply below_alloc | apply pw_below_drewN | apply below_drew1) | exact HB.out)) hb); have n2_ := Aside0.mk (hr_); have n3_ := Aside0.mk (hc_); clear HO788; clear HB; have HO788 := n0_; have HB := n1_; have HR796 := n2_; have HC796 := n3_; clear n0_ n1_ n2_ n3_; clear hb hr_ hc_) | ((with_reducible refine gate_callee (f := 15) rfl ?_); refine goesL_ (some 70) rfl rfl Try.func15 (by kernel_rfl) rfl #[.slice (some ⟨g796, 0, none⟩) y793.length c796] rfl (by (try simp only [List.map_toArray, List.map_cons, List.map_nil]); first | done | rfl | (simp only [List.length_drop, List.length_take]; rfl)) ?_; (with_reducible refine (spec_Digest.calls kj16 _ _ y793 t797 _ ?side1 ?side2 A28.out).mono ?_); (case side1 => repeat (first | exact (by repeat (first | (with_reducible exact HR796.out) | (with_reducible refine Kd.C_alloc ?_ _) | (with_reducible refine Kd.C_drewN ?_ _) | (with_reducible refine Kd.C_drew ?_) | exact HR796.out)) | (with_reducible refine Kd.C_alloc ?_ _) | (with_reducible refine Kd.C_drewN ?_ _) | (with_reducible refine Kd.C_drew ?_))); (case side2 => exact HC796.out); rintro e w46 ⟨rfl, hb⟩; refine ⟨_, rfl, ?_⟩; have n0_ := Aside0.mk (Kd.R_below (by (with_reducible repeat (first | apply Kd.R_alloc | apply Kd.R_drewN | apply Kd.R_drew)); exact HO788.out) hb); have n1_ := Aside0.mk (Kd.C_below (by repeat (first | (with_reducible exact HR796.out) | (with_reducible refine Kd.C_alloc ?_ _) | (with_reducible refine Kd.C_drewN ?_ _) | (with_reducible refine Kd.C_drew ?_) | exact HR796.out)) hb); have n2_ := Aside0.mk (below_step (by repeat (first | (with_reducible first | exact HB.out | apply below_alloc | apply pw_below_drewN | apply below_drew1) | exact HB.out)) hb); clear HO788; clear HR796; clear HB; have HO788 := n0_; have HR796 := n1_; have HB := n2_; clear n0_ n1_ n2_; (try clear hb); (try clear hb2); (try clear hk); (try clear hi)) | ((with_reducible refine gate_callee (f := 62) rfl ?_); refine goesL_ (some 84) rfl rfl Try.func62 (by kernel_rfl) rfl #[.string (rdOf ByteArray.empty l3 (ji13)), .string t797] rfl (by (try simp only [List.map_toArray, List.map_cons, List.map_nil]); first | done | (simp only [hji13]; rfl) | rfl | (simp only [List.length_drop, List.length_take]; rfl)) ?_; (with_reducible refine (spec_l4Node.calls (rdOf ByteArray.empty l3 (ji13)) t797 t804 _ A40.out).mono ?_); rintro e w47 ⟨v805, rfl, ho0, hb⟩; refine ⟨_, rfl, ?_⟩; have n0_ := Aside0.mk (Kd.R_below (by (with_reducible repeat (first | apply Kd.R_alloc | apply Kd.R_drewN | apply Kd.R_drew)); exact HO788.out) hb); have n1_ := Aside0.mk (Kd.R_lower ho0 (below_size (by repeat (first | (with_reducible first | exact HB.out | apply below_alloc | apply pw_below_drewN | apply below_drew1) | exact HB.out)))); have n2_ := Aside0.mk (Kd.C_below (by repeat (first | (with_reducible exact HR796.out) | (with_reducible refine Kd.C_alloc ?_ _) | (with_reducible refine Kd.C_drewN ?_ _) | (with_reducible refine Kd.C_drew ?_) | exact HR796.out)) hb); have n3_ := Aside0.mk (below_step (by repeat (first | (with_reducible first | exact HB.out | apply below_alloc | apply pw_below_drewN | apply below_drew1) | exact HB.out)) hb); clear HO788; clear HR796; clear HB; have HO788 := n0_; have HO806 := n1_; have HR796 := n2_; have HB := n3_; clear n0_ n1_ n2_ n3_; (try clear hb); (try clear hb2); (try clear hk); (try clear hi); (try clear ho0); have hcv48 := own_string (P := Try.prog) Try.underlying22 Try.underlying5 Try.underlying9 (Kd.own_of_R HO806.out)) | ((with_reducible refine gate_builtin (b := .append) (xs := #[.tmp 81, .tmp 86]) rfl ?_); at_builtin; refine Kd.R_append Kd.string (w0 := w) w.heap.size rfl (.tmp 81) (.tmp 86) 47 9 (.string ⟨#[]⟩) 16 rfl Try.underlying47 info9 rfl (by decide) (by omega) (.slice (some ad792) t785.length co44) t785 (strOfNums t804) [.string (strOfNums t804)] (fun _ => True) (fun _ => False) rfl rfl ?aP (fun _ hk => hk.elim) ?aF ?aO ?aB ?aS ?aL ?_; (case aP => exact rfl); (case aB => exact (by repeat (first | (with_reducible first | exact HB.out | apply below_alloc | apply pw_below_drewN | apply below_drew1) | exact HB.out))); (case aF => exact (fun _ _ => trivial)); (case aO => exact (by (with_reducible repeat (first | apply Kd.R_alloc | apply Kd.R_drewN | apply Kd.R_drew)); exact HO788.out)); (case aS => exact (below_size (by repeat (first | (with_reducible first | exact HB.out | apply below_alloc | apply pw_below_drewN | apply below_drew1) | exact HB.out)))); (case aL => have := LMc41.out; omega); intro v808 w49 ho hb hg hat; rw [← Ny807.out] at ho; have n0_ := Aside0.mk (Kd.R_over' (by (with_reducible repeat (first | apply Kd.R_alloc | apply Kd.R_drewN | apply Kd.R_drew)); exact HO806.out) (Kd.R_typed (by (with_reducible repeat (first | apply Kd.R_alloc | apply Kd.R_drewN | apply Kd.R_drew)); exact HO788.out)) (by decide) hg); have n1_ := Aside0.mk (hb); have n2_ := Aside0.mk (ho); clear HO806; clear HB; clear HO788; have HO806 := n0_; have HB := n1_; have HO809 := n2_; clear n0_ n1_ n2_; clear ho hb hg hat))
                              go_ret2
                              exact ⟨_, by first | rfl | (simp [errW_none, errW_some] <;> rfl) | (simp only [← hji13, ← hji19, ← hji24]; first | rfl | (simp [errW_none, errW_some] <;> rfl)) | (simp [*, errW_none, errW_some] <;> rfl), by (with_reducible repeat (first | apply Kd.R_alloc | apply Kd.R_drewN | apply Kd.R_drew)); exact HO809.out, by repeat (first | (with_reducible first | exact HB.out | apply below_alloc | apply pw_below_drewN | apply below_drew1) | exact HB.out)⟩
                            · rw [if_neg c41] at H
                              exact absurd H (by simp)
                        · rw [if_neg c27] at H
                          exact absurd H (by simp)
                      · rw [if_neg c26] at H
                        exact absurd H (by simp)
                    · rw [if_neg c25] at H
                      exact absurd H (by simp)
                  · replace c23 := Bool.eq_false_iff.mpr c23
                    subst c23
                    have H1 : (some ((([] : List ByteArray)), false)) = some (r1, r2) := by rw [if_neg (show ¬ (false = true) by decide)] at H; exact H
                    clear H
                    have H := H1
                    clear H1
                    obtain ⟨y789, hy789⟩ : ∃ y_ : List ByteArray, y_ = (([] : List ByteArray)) := ⟨_, rfl⟩
                    replace H : (some (y789, false)) = some (r1, r2) := by first | (rw [hy789]; with_reducible exact H) | (have H2_ := (Option.bind_some _ _).symm.trans H; rw [hy789]; with_reducible exact H2_) | (have H2_ := (Option.bind_some _ _).symm.trans H; with_reducible exact H2_) | with_reducible exact H | (rw [hy789]; exact H) | exact H
                    have Ny789 := Aside0.mk hy789
                    clear hy789
                    simp only [Option.some.injEq, Prod.mk.injEq] at H
                    obtain ⟨rfl, rfl⟩ := H
                    obtain ⟨i050, hi050, _, hsz50, _⟩ := info_parts info9
                    obtain ⟨hcut50, hA50, hC50⟩ := print_take_of (P := Try.prog) Value.string (⟨#[]⟩ : ByteArray) 47 9 .i64 Try.underlying47 hi050 hsz50 (some ad782) c3 l3 (ji19) (of_decide_eq_true (by first | (with_reducible assumption) | assumption)) (of_decide_eq_true (by first | (with_reducible assumption) | assumption)) HC3.out
                    have HR784 := Aside0.mk (Kd.C_of_reads (h1 := fun _ => rfl) (hA50 _ (Kd.reads_of_C HR3.out)))
                    have HC784 := Aside0.mk hC50
                    clear hA50 hC50 hi050 hsz50
                    go_wp2_with (first | ((with_reducible refine gate_callee (f := 117) rfl ?_); refine goesL_ (some 57) rfl rfl Try.func117 (by kernel_rfl) rfl #[.slice A0 l0.length c0, .int .i64 x13_16, .int .i64 x12_16, .slice (some ad782) (l3.take ((ji19) : Int).toNat).length c3] rfl (by (try simp only [List.map_toArray, List.map_cons, List.map_nil]); first | done | (rw [show (l3.take ((ji19) : Int).toNat).length = (ji19).toNat from (by rw [List.length_take]; have h_ : ((ji19) : Int) ≤ (l3.length : Int) := of_decide_eq_true (by first | (with_reducible assumption) | assumption); omega)] <;> rfl) | (simp only [hji19]; rfl) | rfl | (simp only [List.length_drop, List.length_take]; rfl)) ?_; (with_reducible refine (ih kj16 (by have := HJ16.out; omega) _ _ l0 x13_16 x12_16 _ _ (l3.take ((ji19) : Int).toNat) t785 false _ ?side1 ?side2 ?side3 ?side4 A22.out).mono ?_); (case side1 => repeat (first | exact (Kd.C_below HR0.out HB.out) | (with_reducible refine Kd.C_alloc ?_ _) | (with_reducible refine Kd.C_drewN ?_ _) | (with_reducible refine Kd.C_drew ?_))); (case side2 => exact HC0.out); (case side3 => repeat (first | exact (Kd.C_below HR784.out HB.out) | (with_reducible refine Kd.C_alloc ?_ _) | (with_reducible refine Kd.C_drewN ?_ _) | (with_reducible refine Kd.C_drew ?_))); (case side4 => exact HC784.out); rintro e w51 ⟨v787, rfl, ho0, hb⟩; refine ⟨_, rfl, ?_⟩; have n0_ := Aside0.mk (Kd.R_lower ho0 (below_size (by repeat (first | (with_reducible first | exact HB.out | apply below_alloc | apply pw_below_drewN | apply below_drew1) | exact HB.out)))); have n1_ := Aside0.mk (below_step (by repeat (first | (with_reducible first | exact HB.out | apply below_alloc | apply pw_below_drewN | apply below_drew1) | exact HB.out)) hb); clear HB; have HO788 := n0_; have HB := n1_; clear n0_ n1_; (try clear hb); (try clear hb2); (try clear hk); (try clear hi); (try clear ho0)) | ((with_reducible refine gate_dst (N := 62) rfl ?_); refine Kd.R_lit Kd.string _ 9 ?hg (N := 62) ?hd (xs := ([] : List ByteArray)) (inner := []) (ok := fun _ => True) (okp := fun _ => True) ?hr ?hp (fun _ hk => hk) trivial (Below.refl _ _) (Nat.le_refl _) (by simp) ?_; (case hd => rfl); (case hg => rfl); (case hr => first | (go_simp; done) | (go_simp; rfl)); (case hp => exact (Reps.none _ _)); intro v790 w52 ho53 hb hg_ hnew_; clear hg_ hnew_; (first | rw [← Ny789.out] at ho53 | (simp only [Int.reduceToNat] at ho53; rw [← Ny789.out] at ho53)); have n0_ := Aside0.mk (Kd.R_elder' (by (with_reducible repeat (first | apply Kd.R_alloc | apply Kd.R_drewN | apply Kd.R_drew)); exact HO788.out) (Kd.R_base ho53) hb); have n1_ := Aside0.mk (Kd.R_lower (Kd.R_new' ho53 (Kd.R_lt (by (with_reducible repeat (first | apply Kd.R_alloc | apply Kd.R_drewN | apply Kd.R_drew)); exact HO788.out))) (below_size (by repeat (first | (with_reducible first | exact HB.out | apply below_alloc | apply pw_below_drewN | apply below_drew1) | exact HB.out)))); have n2_ := Aside0.mk (below_step (by repeat (first | (with_reducible first | exact HB.out | apply below_alloc | apply pw_below_drewN | apply below_drew1) | exact HB.out)) hb); clear HO788; clear HB; have HO788 := n0_; have HO791 := n1_; have HB := n2_; clear n0_ n1_ n2_; clear hb ho53))
                    go_ret2
                    exact ⟨_, by first | rfl | (simp [errW_none, errW_some] <;> rfl) | (simp only [← hji13, ← hji19]; first | rfl | (simp [errW_none, errW_some] <;> rfl)) | (simp [*, errW_none, errW_some] <;> rfl), by (with_reducible repeat (first | apply Kd.R_alloc | apply Kd.R_drewN | apply Kd.R_drew)); exact Kd.R_mono HO791.out (fun _ hk => trivial), by repeat (first | (with_reducible first | exact HB.out | apply below_alloc | apply pw_below_drewN | apply below_drew1) | exact HB.out)⟩
                · rw [if_neg c21] at H
                  exact absurd H (by simp)
              · rw [if_neg c20] at H
                exact absurd H (by simp)
        · rw [if_neg c15] at H
          exact absurd H (by simp)
      · rw [if_neg c14] at H
        exact absurd H (by simp)

/-! ### spec_l4All: function 87 -/
def spec_l4All.f (k : Nat) (l0 : List Int) (a1 : Int) (a2 : Int) (l3 : List ByteArray) : Option (List ByteArray × Bool) := (spec_l4Hashed.f k l0 a1 a2 l3).bind fun bt810 => (if bt810.2 = true then (if 0 ≤ (wrap64 ((bt810.1.length : Int) - 1)) then (if (wrap64 ((bt810.1.length : Int) - 1)) < (bt810.1.length : Int) then (if (rdOf ByteArray.empty bt810.1 (wrap64 ((bt810.1.length : Int) - 1))).size ≤ 9223372036854775807 then ((spec_Digest.f k (bytesOf (rdOf ByteArray.empty bt810.1 (wrap64 ((bt810.1.length : Int) - 1))))).bind fun t819 => ((spec_l4Top.f k a2 t819).bind fun t820 => (if bt810.1.length < 8796093022208 then (some ((bt810.1 ++ [strOfNums t820]), true)) else (none)))) else (none)) else (none)) else (none)) else (some ((([] : List ByteArray)), false)))
set_option maxHeartbeats 8000000 in
set_option maxRecDepth 100000 in
theorem spec_l4All.calls (k : Nat) (A0 : Option Addr) (c0 : Nat) (l0 : List Int) (a1 : Int) (a2 : Int) (A3 : Option Addr) (c3 : Nat) (l3 : List ByteArray) (r1 : List ByteArray) (r2 : Bool) (w : World) (hr0 : Kd.C (Kd.int .u8) w A0 l0.length l0) (hc0 : l0.length ≤ c0) (hr3 : Kd.C Kd.string w A3 l3.length l3) (hc3 : l3.length ≤ c3) (h : spec_l4All.f k l0 a1 a2 l3 = some (r1, r2)) :
    Calls Try.prog 87 #[.slice A0 l0.length c0, .int .i64 a1, .int .i64 a2, .slice A3 l3.length c3] w fun e w' => ∃ v0_ : Value, e = .returned (.tuple #[v0_, .bool r2]) ∧ Kd.R Kd.string 9 w' w.heap.size (fun _ => True) v0_ r1 ∧ Below w.heap.size w w' := by
  have HR0 := Aside0.mk hr0
  have HC0 := Aside0.mk hc0
  clear hr0 hc0
  have HR3 := Aside0.mk hr3
  have HC3 := Aside0.mk hc3
  clear hr3 hc3
  have HB := Aside0.mk (Below.refl w.heap.size w)
  have H : ((spec_l4Hashed.f k l0 a1 a2 l3).bind fun bt810 => (if bt810.2 = true then (if 0 ≤ (wrap64 ((bt810.1.length : Int) - 1)) then (if (wrap64 ((bt810.1.length : Int) - 1)) < (bt810.1.length : Int) then (if (rdOf ByteArray.empty bt810.1 (wrap64 ((bt810.1.length : Int) - 1))).size ≤ 9223372036854775807 then ((spec_Digest.f k (bytesOf (rdOf ByteArray.empty bt810.1 (wrap64 ((bt810.1.length : Int) - 1))))).bind fun t819 => ((spec_l4Top.f k a2 t819).bind fun t820 => (if bt810.1.length < 8796093022208 then (some ((bt810.1 ++ [strOfNums t820]), true)) else (none)))) else (none)) else (none)) else (none)) else (some ((([] : List ByteArray)), false)))) = some (r1, r2) := h
  clear h
  replace H := Option.bind_eq_some_iff.mp H
  obtain ⟨⟨t810, t811⟩, A50, H⟩ := H
  replace H : (if t811 = true then (if 0 ≤ (wrap64 ((t810.length : Int) - 1)) then (if (wrap64 ((t810.length : Int) - 1)) < (t810.length : Int) then (if (rdOf ByteArray.empty t810 (wrap64 ((t810.length : Int) - 1))).size ≤ 9223372036854775807 then ((spec_Digest.f k (bytesOf (rdOf ByteArray.empty t810 (wrap64 ((t810.length : Int) - 1))))).bind fun t819 => ((spec_l4Top.f k a2 t819).bind fun t820 => (if t810.length < 8796093022208 then (some ((t810 ++ [strOfNums t820]), true)) else (none)))) else (none)) else (none)) else (none)) else (some ((([] : List ByteArray)), false))) = some (r1, r2) := H
  have A5 := Aside0.mk A50
  clear A50
  by_cases c6 : t811 = true
  · subst c6
    have H1 : (if 0 ≤ (wrap64 ((t810.length : Int) - 1)) then (if (wrap64 ((t810.length : Int) - 1)) < (t810.length : Int) then (if (rdOf ByteArray.empty t810 (wrap64 ((t810.length : Int) - 1))).size ≤ 9223372036854775807 then ((spec_Digest.f k (bytesOf (rdOf ByteArray.empty t810 (wrap64 ((t810.length : Int) - 1))))).bind fun t819 => ((spec_l4Top.f k a2 t819).bind fun t820 => (if t810.length < 8796093022208 then (some ((t810 ++ [strOfNums t820]), true)) else (none)))) else (none)) else (none)) else (none)) = some (r1, r2) := by rw [if_pos rfl] at H; exact H
    clear H
    have H := H1
    clear H1
    obtain ⟨ji7, hji7⟩ : ∃ j_ : Int, (wrap64 ((t810.length : Int) - 1)) = j_ := ⟨_, rfl⟩
    replace H : (if 0 ≤ (ji7) then (if (ji7) < (t810.length : Int) then (if (rdOf ByteArray.empty t810 (ji7)).size ≤ 9223372036854775807 then ((spec_Digest.f k (bytesOf (rdOf ByteArray.empty t810 (ji7)))).bind fun t819 => ((spec_l4Top.f k a2 t819).bind fun t820 => (if t810.length < 8796093022208 then (some ((t810 ++ [strOfNums t820]), true)) else (none)))) else (none)) else (none)) else (none)) = some (r1, r2) := by first | (rw [hji7] at H; exact H) | (simp only [hji7] at H ⊢; exact H)
    (try rw [hji7] at A5)
    have hji7w : (IntKind.i64.wrap ((t810.length : Int) - 1)) = ji7 := (i64_w _).trans hji7
    by_cases c8 : 0 ≤ (ji7)
    · rw [if_pos c8] at H
      have c8b0 : decide (0 ≤ (ji7)) = true := decide_eq_true c8
      clear c8
      by_cases c9 : (ji7) < (t810.length : Int)
      · rw [if_pos c9] at H
        have c9b0 : decide ((ji7) < (t810.length : Int)) = true := decide_eq_true c9
        clear c9
        by_cases c10 : (rdOf ByteArray.empty t810 (ji7)).size ≤ 9223372036854775807
        · rw [if_pos c10] at H
          have c10b0 := eq_true c10
          have c10b1 : decide ((rdOf ByteArray.empty t810 (ji7)).size ≤ 9223372036854775807) = true := decide_eq_true c10
          try have c10b2 : (9223372036854775807 < (rdOf ByteArray.empty t810 (ji7)).size) = False := eq_false (Nat.not_lt.2 c10)
          clear c10
          obtain ⟨y815, hy815⟩ : ∃ y_ : List Int, y_ = (bytesOf (rdOf ByteArray.empty t810 (ji7))) := ⟨_, rfl⟩
          replace H : ((spec_Digest.f k y815).bind fun t819 => ((spec_l4Top.f k a2 t819).bind fun t820 => (if t810.length < 8796093022208 then (some ((t810 ++ [strOfNums t820]), true)) else (none)))) = some (r1, r2) := by first | (rw [hy815]; with_reducible exact H) | (have H2_ := (Option.bind_some _ _).symm.trans H; rw [hy815]; with_reducible exact H2_) | (have H2_ := (Option.bind_some _ _).symm.trans H; with_reducible exact H2_) | with_reducible exact H | (rw [hy815]; exact H) | exact H
          have Ny815 := Aside0.mk hy815
          clear hy815
          replace H := Option.bind_eq_some_iff.mp H
          obtain ⟨t819, A110, H⟩ := H
          replace H : ((spec_l4Top.f k a2 t819).bind fun t820 => (if t810.length < 8796093022208 then (some ((t810 ++ [strOfNums t820]), true)) else (none))) = some (r1, r2) := H
          have A11 := Aside0.mk A110
          clear A110
          replace H := Option.bind_eq_some_iff.mp H
          obtain ⟨t820, A120, H⟩ := H
          replace H : (if t810.length < 8796093022208 then (some ((t810 ++ [strOfNums t820]), true)) else (none)) = some (r1, r2) := H
          have A12 := Aside0.mk A120
          clear A120
          by_cases c13 : t810.length < 8796093022208
          · rw [if_pos c13] at H
            have LMc13 := Aside0.mk c13
            clear c13
            obtain ⟨y823, hy823⟩ : ∃ y_ : List ByteArray, y_ = (t810 ++ [strOfNums t820]) := ⟨_, rfl⟩
            replace H : (some (y823, true)) = some (r1, r2) := by first | (rw [hy823]; with_reducible exact H) | (have H2_ := (Option.bind_some _ _).symm.trans H; rw [hy823]; with_reducible exact H2_) | (have H2_ := (Option.bind_some _ _).symm.trans H; with_reducible exact H2_) | with_reducible exact H | (rw [hy823]; exact H) | exact H
            have Ny823 := Aside0.mk hy823
            clear hy823
            simp only [Option.some.injEq, Prod.mk.injEq] at H
            obtain ⟨rfl, rfl⟩ := H
            go_enter Try.func87, Try.ntmps87
            go_wp2_with (first | ((with_reducible refine gate_callee (f := 117) rfl ?_); refine goesL_ (some 17) rfl rfl Try.func117 (by kernel_rfl) rfl #[.slice A0 l0.length c0, .int .i64 a1, .int .i64 a2, .slice A3 l3.length c3] rfl (by (try simp only [List.map_toArray, List.map_cons, List.map_nil]); first | done | rfl | (simp only [List.length_drop, List.length_take]; rfl)) ?_; (with_reducible refine (spec_l4Hashed.calls k _ _ l0 a1 a2 _ _ l3 t810 true _ ?side1 ?side2 ?side3 ?side4 A5.out).mono ?_); (case side1 => repeat (first | exact HR0.out | (with_reducible refine Kd.C_alloc ?_ _) | (with_reducible refine Kd.C_drewN ?_ _) | (with_reducible refine Kd.C_drew ?_))); (case side2 => exact HC0.out); (case side3 => repeat (first | exact HR3.out | (with_reducible refine Kd.C_alloc ?_ _) | (with_reducible refine Kd.C_drewN ?_ _) | (with_reducible refine Kd.C_drew ?_))); (case side4 => exact HC3.out); rintro e w14 ⟨v812, rfl, ho0, hb⟩; refine ⟨_, rfl, ?_⟩; have n0_ := Aside0.mk (Kd.R_lower ho0 (below_size (by repeat (first | (with_reducible first | exact HB.out | apply below_alloc | apply pw_below_drewN | apply below_drew1) | exact HB.out)))); have n1_ := Aside0.mk (below_step (by repeat (first | (with_reducible first | exact HB.out | apply below_alloc | apply pw_below_drewN | apply below_drew1) | exact HB.out)) hb); clear HB; have HO813 := n0_; have HB := n1_; clear n0_ n1_; (try clear hb); (try clear hb2); (try clear hk); (try clear hi); (try clear ho0); obtain ⟨Ao15, co15, eo15⟩ := Kd.R_slice HO813.out; subst eo15; have p814 : 0 ≤ ((ji7) : Int) := of_decide_eq_true (by first | (with_reducible assumption) | assumption); have q814 : (ji7) < (t810.length : Int) := of_decide_eq_true (by first | (with_reducible assumption) | assumption); obtain ⟨ad814, e814, hx814_0⟩ := Kd.at_string (Kd.R_reads' HO813.out).2.2 (ji7) p814 q814; cases e814; replace p814 := eq_true p814; replace q814 := eq_true q814) | ((with_reducible refine gate_dst (N := 31) rfl ?_); refine Kd.conv_event rfl 9 22 5 _ (rdOf ByteArray.empty t810 (ji7)) y815 rfl rfl Try.underlying9 Try.underlying22 Try.underlying5 Ny815.out (of_decide_eq_true (by first | (with_reducible assumption) | assumption)) ?_; intro g818 c818 w16 hr_ hc_ hb; have n0_ := Aside0.mk (Kd.R_below (by (with_reducible repeat (first | apply Kd.R_alloc | apply Kd.R_drewN | apply Kd.R_drew)); exact HO813.out) hb); have n1_ := Aside0.mk (below_step (by repeat (first | (with_reducible first | exact HB.out | apply below_alloc | apply pw_below_drewN | apply below_drew1) | exact HB.out)) hb); have n2_ := Aside0.mk (hr_); have n3_ := Aside0.mk (hc_); clear HO813; clear HB; have HO813 := n0_; have HB := n1_; have HR818 := n2_; have HC818 := n3_; clear n0_ n1_ n2_ n3_; clear hb hr_ hc_) | ((with_reducible refine gate_callee (f := 15) rfl ?_); refine goesL_ (some 32) rfl rfl Try.func15 (by kernel_rfl) rfl #[.slice (some ⟨g818, 0, none⟩) y815.length c818] rfl (by (try simp only [List.map_toArray, List.map_cons, List.map_nil]); first | done | rfl | (simp only [List.length_drop, List.length_take]; rfl)) ?_; (with_reducible refine (spec_Digest.calls k _ _ y815 t819 _ ?side1 ?side2 A11.out).mono ?_); (case side1 => repeat (first | exact (by repeat (first | (with_reducible exact HR818.out) | (with_reducible refine Kd.C_alloc ?_ _) | (with_reducible refine Kd.C_drewN ?_ _) | (with_reducible refine Kd.C_drew ?_) | exact HR818.out)) | (with_reducible refine Kd.C_alloc ?_ _) | (with_reducible refine Kd.C_drewN ?_ _) | (with_reducible refine Kd.C_drew ?_))); (case side2 => exact HC818.out); rintro e w17 ⟨rfl, hb⟩; refine ⟨_, rfl, ?_⟩; have n0_ := Aside0.mk (Kd.R_below (by (with_reducible repeat (first | apply Kd.R_alloc | apply Kd.R_drewN | apply Kd.R_drew)); exact HO813.out) hb); have n1_ := Aside0.mk (Kd.C_below (by repeat (first | (with_reducible exact HR818.out) | (with_reducible refine Kd.C_alloc ?_ _) | (with_reducible refine Kd.C_drewN ?_ _) | (with_reducible refine Kd.C_drew ?_) | exact HR818.out)) hb); have n2_ := Aside0.mk (below_step (by repeat (first | (with_reducible first | exact HB.out | apply below_alloc | apply pw_below_drewN | apply below_drew1) | exact HB.out)) hb); clear HO813; clear HR818; clear HB; have HO813 := n0_; have HR818 := n1_; have HB := n2_; clear n0_ n1_ n2_; (try clear hb); (try clear hb2); (try clear hk); (try clear hi)) | ((with_reducible refine gate_callee (f := 116) rfl ?_); refine goesL_ (some 33) rfl rfl Try.func116 (by kernel_rfl) rfl #[.int .i64 a2, .string t819] rfl (by (try simp only [List.map_toArray, List.map_cons, List.map_nil]); first | done | rfl | (simp only [List.length_drop, List.length_take]; rfl)) ?_; (with_reducible refine (spec_l4Top.calls k a2 t819 t820 _ A12.out).mono ?_); rintro e w18 ⟨v821, rfl, ho0, hb⟩; refine ⟨_, rfl, ?_⟩; have n0_ := Aside0.mk (Kd.R_below (by (with_reducible repeat (first | apply Kd.R_alloc | apply Kd.R_drewN | apply Kd.R_drew)); exact HO813.out) hb); have n1_ := Aside0.mk (Kd.R_lower ho0 (below_size (by repeat (first | (with_reducible first | exact HB.out | apply below_alloc | apply pw_below_drewN | apply below_drew1) | exact HB.out)))); have n2_ := Aside0.mk (Kd.C_below (by repeat (first | (with_reducible exact HR818.out) | (with_reducible refine Kd.C_alloc ?_ _) | (with_reducible refine Kd.C_drewN ?_ _) | (with_reducible refine Kd.C_drew ?_) | exact HR818.out)) hb); have n3_ := Aside0.mk (below_step (by repeat (first | (with_reducible first | exact HB.out | apply below_alloc | apply pw_below_drewN | apply below_drew1) | exact HB.out)) hb); clear HO813; clear HR818; clear HB; have HO813 := n0_; have HO822 := n1_; have HR818 := n2_; have HB := n3_; clear n0_ n1_ n2_ n3_; (try clear hb); (try clear hb2); (try clear hk); (try clear hi); (try clear ho0); have hcv19 := own_string (P := Try.prog) Try.underlying22 Try.underlying5 Try.underlying9 (Kd.own_of_R HO822.out)) | ((with_reducible refine gate_builtin (b := .append) (xs := #[.tmp 23, .tmp 35]) rfl ?_); at_builtin; refine Kd.R_append Kd.string (w0 := w) w.heap.size rfl (.tmp 23) (.tmp 35) 47 9 (.string ⟨#[]⟩) 16 rfl Try.underlying47 info9 rfl (by decide) (by omega) (.slice (some ad814) t810.length co15) t810 (strOfNums t820) [.string (strOfNums t820)] (fun _ => True) (fun _ => False) rfl rfl ?aP (fun _ hk => hk.elim) ?aF ?aO ?aB ?aS ?aL ?_; (case aP => exact rfl); (case aB => exact (by repeat (first | (with_reducible first | exact HB.out | apply below_alloc | apply pw_below_drewN | apply below_drew1) | exact HB.out))); (case aF => exact (fun _ _ => trivial)); (case aO => exact (by (with_reducible repeat (first | apply Kd.R_alloc | apply Kd.R_drewN | apply Kd.R_drew)); exact HO813.out)); (case aS => exact (below_size (by repeat (first | (with_reducible first | exact HB.out | apply below_alloc | apply pw_below_drewN | apply below_drew1) | exact HB.out)))); (case aL => have := LMc13.out; omega); intro v824 w20 ho hb hg hat; rw [← Ny823.out] at ho; have n0_ := Aside0.mk (Kd.R_over' (by (with_reducible repeat (first | apply Kd.R_alloc | apply Kd.R_drewN | apply Kd.R_drew)); exact HO822.out) (Kd.R_typed (by (with_reducible repeat (first | apply Kd.R_alloc | apply Kd.R_drewN | apply Kd.R_drew)); exact HO813.out)) (by decide) hg); have n1_ := Aside0.mk (hb); have n2_ := Aside0.mk (ho); clear HO822; clear HB; clear HO813; have HO822 := n0_; have HB := n1_; have HO825 := n2_; clear n0_ n1_ n2_; clear ho hb hg hat))
            go_ret2
            exact ⟨_, by first | rfl | (simp [errW_none, errW_some] <;> rfl) | (simp only [← hji7]; first | rfl | (simp [errW_none, errW_some] <;> rfl)) | (simp [*, errW_none, errW_some] <;> rfl), by (with_reducible repeat (first | apply Kd.R_alloc | apply Kd.R_drewN | apply Kd.R_drew)); exact HO825.out, by repeat (first | (with_reducible first | exact HB.out | apply below_alloc | apply pw_below_drewN | apply below_drew1) | exact HB.out)⟩
          · rw [if_neg c13] at H
            exact absurd H (by simp)
        · rw [if_neg c10] at H
          exact absurd H (by simp)
      · rw [if_neg c9] at H
        exact absurd H (by simp)
    · rw [if_neg c8] at H
      exact absurd H (by simp)
  · replace c6 := Bool.eq_false_iff.mpr c6
    subst c6
    have H1 : (some ((([] : List ByteArray)), false)) = some (r1, r2) := by rw [if_neg (show ¬ (false = true) by decide)] at H; exact H
    clear H
    have H := H1
    clear H1
    obtain ⟨y826, hy826⟩ : ∃ y_ : List ByteArray, y_ = (([] : List ByteArray)) := ⟨_, rfl⟩
    replace H : (some (y826, false)) = some (r1, r2) := by first | (rw [hy826]; with_reducible exact H) | (have H2_ := (Option.bind_some _ _).symm.trans H; rw [hy826]; with_reducible exact H2_) | (have H2_ := (Option.bind_some _ _).symm.trans H; with_reducible exact H2_) | with_reducible exact H | (rw [hy826]; exact H) | exact H
    have Ny826 := Aside0.mk hy826
    clear hy826
    simp only [Option.some.injEq, Prod.mk.injEq] at H
    obtain ⟨rfl, rfl⟩ := H
    go_enter Try.func87, Try.ntmps87
    go_wp2_with (first | ((with_reducible refine gate_callee (f := 117) rfl ?_); refine goesL_ (some 17) rfl rfl Try.func117 (by kernel_rfl) rfl #[.slice A0 l0.length c0, .int .i64 a1, .int .i64 a2, .slice A3 l3.length c3] rfl (by (try simp only [List.map_toArray, List.map_cons, List.map_nil]); first | done | rfl | (simp only [List.length_drop, List.length_take]; rfl)) ?_; (with_reducible refine (spec_l4Hashed.calls k _ _ l0 a1 a2 _ _ l3 t810 false _ ?side1 ?side2 ?side3 ?side4 A5.out).mono ?_); (case side1 => repeat (first | exact HR0.out | (with_reducible refine Kd.C_alloc ?_ _) | (with_reducible refine Kd.C_drewN ?_ _) | (with_reducible refine Kd.C_drew ?_))); (case side2 => exact HC0.out); (case side3 => repeat (first | exact HR3.out | (with_reducible refine Kd.C_alloc ?_ _) | (with_reducible refine Kd.C_drewN ?_ _) | (with_reducible refine Kd.C_drew ?_))); (case side4 => exact HC3.out); rintro e w21 ⟨v812, rfl, ho0, hb⟩; refine ⟨_, rfl, ?_⟩; have n0_ := Aside0.mk (Kd.R_lower ho0 (below_size (by repeat (first | (with_reducible first | exact HB.out | apply below_alloc | apply pw_below_drewN | apply below_drew1) | exact HB.out)))); have n1_ := Aside0.mk (below_step (by repeat (first | (with_reducible first | exact HB.out | apply below_alloc | apply pw_below_drewN | apply below_drew1) | exact HB.out)) hb); clear HB; have HO813 := n0_; have HB := n1_; clear n0_ n1_; (try clear hb); (try clear hb2); (try clear hk); (try clear hi); (try clear ho0)) | ((with_reducible refine gate_dst (N := 22) rfl ?_); refine Kd.R_lit Kd.string _ 9 ?hg (N := 22) ?hd (xs := ([] : List ByteArray)) (inner := []) (ok := fun _ => True) (okp := fun _ => True) ?hr ?hp (fun _ hk => hk) trivial (Below.refl _ _) (Nat.le_refl _) (by simp) ?_; (case hd => rfl); (case hg => rfl); (case hr => first | (go_simp; done) | (go_simp; rfl)); (case hp => exact (Reps.none _ _)); intro v827 w22 ho23 hb hg_ hnew_; clear hg_ hnew_; (first | rw [← Ny826.out] at ho23 | (simp only [Int.reduceToNat] at ho23; rw [← Ny826.out] at ho23)); have n0_ := Aside0.mk (Kd.R_elder' (by (with_reducible repeat (first | apply Kd.R_alloc | apply Kd.R_drewN | apply Kd.R_drew)); exact HO813.out) (Kd.R_base ho23) hb); have n1_ := Aside0.mk (Kd.R_lower (Kd.R_new' ho23 (Kd.R_lt (by (with_reducible repeat (first | apply Kd.R_alloc | apply Kd.R_drewN | apply Kd.R_drew)); exact HO813.out))) (below_size (by repeat (first | (with_reducible first | exact HB.out | apply below_alloc | apply pw_below_drewN | apply below_drew1) | exact HB.out)))); have n2_ := Aside0.mk (below_step (by repeat (first | (with_reducible first | exact HB.out | apply below_alloc | apply pw_below_drewN | apply below_drew1) | exact HB.out)) hb); clear HO813; clear HB; have HO813 := n0_; have HO828 := n1_; have HB := n2_; clear n0_ n1_ n2_; clear hb ho23))
    go_ret2
    exact ⟨_, by first | rfl | (simp [errW_none, errW_some] <;> rfl) | (simp [*, errW_none, errW_some] <;> rfl), by (with_reducible repeat (first | apply Kd.R_alloc | apply Kd.R_drewN | apply Kd.R_drew)); exact Kd.R_mono HO828.out (fun _ hk => trivial), by repeat (first | (with_reducible first | exact HB.out | apply below_alloc | apply pw_below_drewN | apply below_drew1) | exact HB.out)⟩

end Go.Proofs.Ytnjifkljamdfdaa.P
