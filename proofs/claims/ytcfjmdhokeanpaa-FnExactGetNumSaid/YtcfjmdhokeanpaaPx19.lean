-- Written by wip/xp/xp.py over the kit's print; Lean checks it.
import Derived.Test.YtcfjmdhokeanpaaPx0
import Derived.Test.YtcfjmdhokeanpaaPx13
import Derived.Test.YtcfjmdhokeanpaaPx14
namespace Go.Proofs.Ytcfjmdhokeanpaa.P
open Go.RowKit Go.Proofs.YtcfjmdhokeanpaaW.PrintWords Go.Proofs.YtcfjmdhokeanpaaW.PrintLast Go.Proofs.YtcfjmdhokeanpaaW.PrintMore
attribute [local go_sem] max2_int min2_int max_two min_two max_three min_three max_four min_four   -- for this text's walks alone
set_option linter.unusedVariables false
set_option linter.unusedSimpArgs false

/-! ### spec_GetText: function 37 -/
def spec_GetText.f (k : Nat) (l0 : List Int) (a1 : Int) : Option (ByteArray × Int × Bool) := (spec_GetNum.f k l0 a1).bind fun bt246 => (if bt246.2.2 = true then (if bt246.1 > (wrap64 ((l0.length : Int) - bt246.2.1)) then (some ((⟨#[]⟩ : ByteArray), 0, false)) else (if 0 ≤ bt246.2.1 then (if bt246.2.1 ≤ (wrap64 (bt246.2.1 + bt246.1)) then (if (wrap64 (bt246.2.1 + bt246.1)) ≤ (l0.length : Int) then (some (strOfNums ((l0.take ((wrap64 (bt246.2.1 + bt246.1)) : Int).toNat).drop (bt246.2.1 : Int).toNat), wrap64 (bt246.2.1 + bt246.1), true)) else (none)) else (none)) else (none))) else (some ((⟨#[]⟩ : ByteArray), 0, false)))
set_option maxHeartbeats 8000000 in
set_option maxRecDepth 100000 in
theorem spec_GetText.calls (k : Nat) (A0 : Option Addr) (c0 : Nat) (l0 : List Int) (a1 : Int) (r1 : ByteArray) (r2 : Int) (r3 : Bool) (w : World) (hr0 : Kd.C (Kd.int .u8) w A0 l0.length l0) (hc0 : l0.length ≤ c0) (h : spec_GetText.f k l0 a1 = some (r1, r2, r3)) :
    Calls Try.prog 37 #[.slice A0 l0.length c0, .int .i64 a1] w fun e w' => e = .returned (.tuple #[.string r1, .int .i64 r2, .bool r3]) ∧ Drawn0 w w' := by
  have HR0 := Aside0.mk hr0
  have HC0 := Aside0.mk hc0
  clear hr0 hc0
  have H : ((spec_GetNum.f k l0 a1).bind fun bt246 => (if bt246.2.2 = true then (if bt246.1 > (wrap64 ((l0.length : Int) - bt246.2.1)) then (some ((⟨#[]⟩ : ByteArray), 0, false)) else (if 0 ≤ bt246.2.1 then (if bt246.2.1 ≤ (wrap64 (bt246.2.1 + bt246.1)) then (if (wrap64 (bt246.2.1 + bt246.1)) ≤ (l0.length : Int) then (some (strOfNums ((l0.take ((wrap64 (bt246.2.1 + bt246.1)) : Int).toNat).drop (bt246.2.1 : Int).toNat), wrap64 (bt246.2.1 + bt246.1), true)) else (none)) else (none)) else (none))) else (some ((⟨#[]⟩ : ByteArray), 0, false)))) = some (r1, r2, r3) := h
  clear h
  replace H := Option.bind_eq_some_iff.mp H
  obtain ⟨⟨t246, t247, t248⟩, A30, H⟩ := H
  replace H : (if t248 = true then (if t246 > (wrap64 ((l0.length : Int) - t247)) then (some ((⟨#[]⟩ : ByteArray), 0, false)) else (if 0 ≤ t247 then (if t247 ≤ (wrap64 (t247 + t246)) then (if (wrap64 (t247 + t246)) ≤ (l0.length : Int) then (some (strOfNums ((l0.take ((wrap64 (t247 + t246)) : Int).toNat).drop (t247 : Int).toNat), wrap64 (t247 + t246), true)) else (none)) else (none)) else (none))) else (some ((⟨#[]⟩ : ByteArray), 0, false))) = some (r1, r2, r3) := H
  have A3 := Aside0.mk A30
  clear A30
  by_cases c4 : t248 = true
  · subst c4
    have H1 : (if t246 > (wrap64 ((l0.length : Int) - t247)) then (some ((⟨#[]⟩ : ByteArray), 0, false)) else (if 0 ≤ t247 then (if t247 ≤ (wrap64 (t247 + t246)) then (if (wrap64 (t247 + t246)) ≤ (l0.length : Int) then (some (strOfNums ((l0.take ((wrap64 (t247 + t246)) : Int).toNat).drop (t247 : Int).toNat), wrap64 (t247 + t246), true)) else (none)) else (none)) else (none))) = some (r1, r2, r3) := by rw [if_pos rfl] at H; exact H
    clear H
    have H := H1
    clear H1
    by_cases c5 : t246 > (wrap64 ((l0.length : Int) - t247))
    · rw [if_pos c5] at H
      have c5b0 : decide ((wrap64 ((l0.length : Int) - t247)) < t246) = true := decide_eq_true c5
      clear c5
      simp only [Option.some.injEq, Prod.mk.injEq] at H
      obtain ⟨rfl, rfl, rfl⟩ := H
      go_enter Try.func37, Try.ntmps37
      go_wp2_with (first | ((with_reducible refine gate_callee (f := 29) rfl ?_); refine goesL_ (some 13) rfl rfl Try.func29 (by kernel_rfl) rfl #[.slice A0 l0.length c0, .int .i64 a1] rfl (by (try simp only [List.map_toArray, List.map_cons, List.map_nil]); first | done | rfl | (simp only [List.length_drop, List.length_take]; rfl)) ?_; (with_reducible refine (spec_GetNum.calls k _ _ l0 a1 t246 t247 true _ ?side1 ?side2 A3.out).mono ?_); (case side1 => repeat (first | exact HR0.out | (with_reducible refine Kd.C_alloc ?_ _) | (with_reducible refine Kd.C_drewN ?_ _) | (with_reducible refine Kd.C_drew ?_))); (case side2 => exact HC0.out); rintro e w' ⟨rfl, ⟨nd, rfl⟩⟩; refine ⟨_, rfl, ?_⟩))
      go_ret3
      exact ⟨by first | rfl | (simp; done) | (simp [*]; done), by repeat (first | exact Drawn0.refl _ | apply Drawn0.step)⟩
    · rw [if_neg c5] at H
      have c5b0 : decide ((wrap64 ((l0.length : Int) - t247)) < t246) = false := decide_eq_false c5
      clear c5
      by_cases c6 : 0 ≤ t247
      · rw [if_pos c6] at H
        have c6b0 := eq_true c6
        have c6b1 : decide (0 ≤ t247) = true := decide_eq_true c6
        clear c6
        by_cases c7 : t247 ≤ (wrap64 (t247 + t246))
        · rw [if_pos c7] at H
          have c7b0 := eq_true c7
          have c7b1 : decide (t247 ≤ (wrap64 (t247 + t246))) = true := decide_eq_true c7
          by_cases c8 : (wrap64 (t247 + t246)) ≤ (l0.length : Int)
          · rw [if_pos c8] at H
            have c8b0 := eq_true c8
            have c8b1 : decide ((wrap64 (t247 + t246)) ≤ (l0.length : Int)) = true := decide_eq_true c8
            simp only [Option.some.injEq, Prod.mk.injEq] at H
            obtain ⟨rfl, rfl, rfl⟩ := H
            go_enter Try.func37, Try.ntmps37
            go_wp2_with (first | ((with_reducible refine gate_callee (f := 29) rfl ?_); refine goesL_ (some 13) rfl rfl Try.func29 (by kernel_rfl) rfl #[.slice A0 l0.length c0, .int .i64 a1] rfl (by (try simp only [List.map_toArray, List.map_cons, List.map_nil]); first | done | rfl | (simp only [List.length_drop, List.length_take]; rfl)) ?_; (with_reducible refine (spec_GetNum.calls k _ _ l0 a1 t246 t247 true _ ?side1 ?side2 A3.out).mono ?_); (case side1 => repeat (first | exact HR0.out | (with_reducible refine Kd.C_alloc ?_ _) | (with_reducible refine Kd.C_drewN ?_ _) | (with_reducible refine Kd.C_drew ?_))); (case side2 => exact HC0.out); rintro e w' ⟨rfl, ⟨nd, rfl⟩⟩; refine ⟨_, rfl, ?_⟩; obtain ⟨i09, hi09, _, hsz9, _⟩ := info_parts info5; obtain ⟨A9, hcut9, hA9, hC9⟩ := print_mid_of (P := Try.prog) (Value.int .u8) 0 37 5 .i64 .i64 Try.underlying37 hi09 hsz9 A0 c0 l0 t247 (wrap64 (t247 + t246)) (of_decide_eq_true (by first | (with_reducible assumption) | assumption)) (by first | omega | exact of_decide_eq_true (by first | (with_reducible assumption) | assumption)) (of_decide_eq_true (by first | (with_reducible assumption) | assumption)) HC0.out; have HR249 := Aside0.mk (Kd.C_of_reads (h1 := fun _ => rfl) (hA9 _ (Kd.reads_of_C HR0.out))); have HC249 := Aside0.mk hC9; clear hA9 hC9 hi09 hsz9; have hcv10 := Kd.C_string (P := Try.prog) (A := A9) (c := (c0 - t247.toNat)) Try.underlying37 Try.underlying5 Try.underlying9 HR249.out; have hcv11d := fun n_ => Kd.C_string (P := Try.prog) (A := A9) (c := (c0 - t247.toNat)) Try.underlying37 Try.underlying5 Try.underlying9 (Kd.C_drewN HR249.out n_); have hcv11e : ∀ n_, Sem.run Try.prog (convert 37 9 (.slice A9 (((wrap64 (t247 + t246)) : Int).toNat - (t247 : Int).toNat) ((c0 - t247.toNat)))) (w.drewN n_) = .ok (.string (strOfNums ((l0.take ((wrap64 (t247 + t246)) : Int).toNat).drop (t247 : Int).toNat))) (w.drewN n_) := fun n_ => by have h_ := hcv11d n_; rwa [show ((l0.take ((wrap64 (t247 + t246)) : Int).toNat).drop (t247 : Int).toNat).length = ((wrap64 (t247 + t246)) : Int).toNat - (t247 : Int).toNat from by rw [List.length_drop, List.length_take]; have h2_ : (wrap64 (t247 + t246)) ≤ (l0.length : Int) := of_decide_eq_true (by first | (with_reducible assumption) | assumption); omega] at h_))
            go_ret3
            exact ⟨by first | rfl | (simp; done) | (simp [*]; done), by repeat (first | exact Drawn0.refl _ | apply Drawn0.step)⟩
          · rw [if_neg c8] at H
            exact absurd H (by simp)
        · rw [if_neg c7] at H
          exact absurd H (by simp)
      · rw [if_neg c6] at H
        exact absurd H (by simp)
  · replace c4 := Bool.eq_false_iff.mpr c4
    subst c4
    have H1 : (some ((⟨#[]⟩ : ByteArray), 0, false)) = some (r1, r2, r3) := by rw [if_neg (show ¬ (false = true) by decide)] at H; exact H
    clear H
    have H := H1
    clear H1
    simp only [Option.some.injEq, Prod.mk.injEq] at H
    obtain ⟨rfl, rfl, rfl⟩ := H
    go_enter Try.func37, Try.ntmps37
    go_wp2_with (first | ((with_reducible refine gate_callee (f := 29) rfl ?_); refine goesL_ (some 13) rfl rfl Try.func29 (by kernel_rfl) rfl #[.slice A0 l0.length c0, .int .i64 a1] rfl (by (try simp only [List.map_toArray, List.map_cons, List.map_nil]); first | done | rfl | (simp only [List.length_drop, List.length_take]; rfl)) ?_; (with_reducible refine (spec_GetNum.calls k _ _ l0 a1 t246 t247 false _ ?side1 ?side2 A3.out).mono ?_); (case side1 => repeat (first | exact HR0.out | (with_reducible refine Kd.C_alloc ?_ _) | (with_reducible refine Kd.C_drewN ?_ _) | (with_reducible refine Kd.C_drew ?_))); (case side2 => exact HC0.out); rintro e w' ⟨rfl, ⟨nd, rfl⟩⟩; refine ⟨_, rfl, ?_⟩))
    go_ret3
    exact ⟨by first | rfl | (simp; done) | (simp [*]; done), by repeat (first | exact Drawn0.refl _ | apply Drawn0.step)⟩

/-! ### impl_GetText: function 38 -/
def impl_GetText.f (k : Nat) (l0 : List Int) (a1 : Int) : Option (ByteArray × Int × Bool) := (impl_GetNum.f k l0 a1).bind fun bt250 => (if bt250.2.2 = true then (if bt250.1 > (wrap64 ((l0.length : Int) - bt250.2.1)) then (some ((⟨#[]⟩ : ByteArray), 0, false)) else (if 0 ≤ bt250.2.1 then (if bt250.2.1 ≤ (wrap64 (bt250.2.1 + bt250.1)) then (if (wrap64 (bt250.2.1 + bt250.1)) ≤ (l0.length : Int) then (some (strOfNums ((l0.take ((wrap64 (bt250.2.1 + bt250.1)) : Int).toNat).drop (bt250.2.1 : Int).toNat), wrap64 (bt250.2.1 + bt250.1), true)) else (none)) else (none)) else (none))) else (some ((⟨#[]⟩ : ByteArray), 0, false)))
set_option maxHeartbeats 8000000 in
set_option maxRecDepth 100000 in
theorem impl_GetText.calls (k : Nat) (A0 : Option Addr) (c0 : Nat) (l0 : List Int) (a1 : Int) (r1 : ByteArray) (r2 : Int) (r3 : Bool) (w : World) (hr0 : Kd.C (Kd.int .u8) w A0 l0.length l0) (hc0 : l0.length ≤ c0) (h : impl_GetText.f k l0 a1 = some (r1, r2, r3)) :
    Calls Try.prog 38 #[.slice A0 l0.length c0, .int .i64 a1] w fun e w' => e = .returned (.tuple #[.string r1, .int .i64 r2, .bool r3]) ∧ Drawn0 w w' := by
  have HR0 := Aside0.mk hr0
  have HC0 := Aside0.mk hc0
  clear hr0 hc0
  have H : ((impl_GetNum.f k l0 a1).bind fun bt250 => (if bt250.2.2 = true then (if bt250.1 > (wrap64 ((l0.length : Int) - bt250.2.1)) then (some ((⟨#[]⟩ : ByteArray), 0, false)) else (if 0 ≤ bt250.2.1 then (if bt250.2.1 ≤ (wrap64 (bt250.2.1 + bt250.1)) then (if (wrap64 (bt250.2.1 + bt250.1)) ≤ (l0.length : Int) then (some (strOfNums ((l0.take ((wrap64 (bt250.2.1 + bt250.1)) : Int).toNat).drop (bt250.2.1 : Int).toNat), wrap64 (bt250.2.1 + bt250.1), true)) else (none)) else (none)) else (none))) else (some ((⟨#[]⟩ : ByteArray), 0, false)))) = some (r1, r2, r3) := h
  clear h
  replace H := Option.bind_eq_some_iff.mp H
  obtain ⟨⟨t250, t251, t252⟩, A30, H⟩ := H
  replace H : (if t252 = true then (if t250 > (wrap64 ((l0.length : Int) - t251)) then (some ((⟨#[]⟩ : ByteArray), 0, false)) else (if 0 ≤ t251 then (if t251 ≤ (wrap64 (t251 + t250)) then (if (wrap64 (t251 + t250)) ≤ (l0.length : Int) then (some (strOfNums ((l0.take ((wrap64 (t251 + t250)) : Int).toNat).drop (t251 : Int).toNat), wrap64 (t251 + t250), true)) else (none)) else (none)) else (none))) else (some ((⟨#[]⟩ : ByteArray), 0, false))) = some (r1, r2, r3) := H
  have A3 := Aside0.mk A30
  clear A30
  by_cases c4 : t252 = true
  · subst c4
    have H1 : (if t250 > (wrap64 ((l0.length : Int) - t251)) then (some ((⟨#[]⟩ : ByteArray), 0, false)) else (if 0 ≤ t251 then (if t251 ≤ (wrap64 (t251 + t250)) then (if (wrap64 (t251 + t250)) ≤ (l0.length : Int) then (some (strOfNums ((l0.take ((wrap64 (t251 + t250)) : Int).toNat).drop (t251 : Int).toNat), wrap64 (t251 + t250), true)) else (none)) else (none)) else (none))) = some (r1, r2, r3) := by rw [if_pos rfl] at H; exact H
    clear H
    have H := H1
    clear H1
    by_cases c5 : t250 > (wrap64 ((l0.length : Int) - t251))
    · rw [if_pos c5] at H
      have c5b0 : decide ((wrap64 ((l0.length : Int) - t251)) < t250) = true := decide_eq_true c5
      clear c5
      simp only [Option.some.injEq, Prod.mk.injEq] at H
      obtain ⟨rfl, rfl, rfl⟩ := H
      go_enter Try.func38, Try.ntmps38
      go_wp2_with (first | ((with_reducible refine gate_callee (f := 31) rfl ?_); refine goesL_ (some 13) rfl rfl Try.func31 (by kernel_rfl) rfl #[.slice A0 l0.length c0, .int .i64 a1] rfl (by (try simp only [List.map_toArray, List.map_cons, List.map_nil]); first | done | rfl | (simp only [List.length_drop, List.length_take]; rfl)) ?_; (with_reducible refine (impl_GetNum.calls k _ _ l0 a1 t250 t251 true _ ?side1 ?side2 A3.out).mono ?_); (case side1 => repeat (first | exact HR0.out | (with_reducible refine Kd.C_alloc ?_ _) | (with_reducible refine Kd.C_drewN ?_ _) | (with_reducible refine Kd.C_drew ?_))); (case side2 => exact HC0.out); rintro e w' ⟨rfl, ⟨nd, rfl⟩⟩; refine ⟨_, rfl, ?_⟩))
      go_ret3
      exact ⟨by first | rfl | (simp; done) | (simp [*]; done), by repeat (first | exact Drawn0.refl _ | apply Drawn0.step)⟩
    · rw [if_neg c5] at H
      have c5b0 : decide ((wrap64 ((l0.length : Int) - t251)) < t250) = false := decide_eq_false c5
      clear c5
      by_cases c6 : 0 ≤ t251
      · rw [if_pos c6] at H
        have c6b0 := eq_true c6
        have c6b1 : decide (0 ≤ t251) = true := decide_eq_true c6
        clear c6
        by_cases c7 : t251 ≤ (wrap64 (t251 + t250))
        · rw [if_pos c7] at H
          have c7b0 := eq_true c7
          have c7b1 : decide (t251 ≤ (wrap64 (t251 + t250))) = true := decide_eq_true c7
          by_cases c8 : (wrap64 (t251 + t250)) ≤ (l0.length : Int)
          · rw [if_pos c8] at H
            have c8b0 := eq_true c8
            have c8b1 : decide ((wrap64 (t251 + t250)) ≤ (l0.length : Int)) = true := decide_eq_true c8
            simp only [Option.some.injEq, Prod.mk.injEq] at H
            obtain ⟨rfl, rfl, rfl⟩ := H
            go_enter Try.func38, Try.ntmps38
            go_wp2_with (first | ((with_reducible refine gate_callee (f := 31) rfl ?_); refine goesL_ (some 13) rfl rfl Try.func31 (by kernel_rfl) rfl #[.slice A0 l0.length c0, .int .i64 a1] rfl (by (try simp only [List.map_toArray, List.map_cons, List.map_nil]); first | done | rfl | (simp only [List.length_drop, List.length_take]; rfl)) ?_; (with_reducible refine (impl_GetNum.calls k _ _ l0 a1 t250 t251 true _ ?side1 ?side2 A3.out).mono ?_); (case side1 => repeat (first | exact HR0.out | (with_reducible refine Kd.C_alloc ?_ _) | (with_reducible refine Kd.C_drewN ?_ _) | (with_reducible refine Kd.C_drew ?_))); (case side2 => exact HC0.out); rintro e w' ⟨rfl, ⟨nd, rfl⟩⟩; refine ⟨_, rfl, ?_⟩; obtain ⟨i09, hi09, _, hsz9, _⟩ := info_parts info5; obtain ⟨A9, hcut9, hA9, hC9⟩ := print_mid_of (P := Try.prog) (Value.int .u8) 0 37 5 .i64 .i64 Try.underlying37 hi09 hsz9 A0 c0 l0 t251 (wrap64 (t251 + t250)) (of_decide_eq_true (by first | (with_reducible assumption) | assumption)) (by first | omega | exact of_decide_eq_true (by first | (with_reducible assumption) | assumption)) (of_decide_eq_true (by first | (with_reducible assumption) | assumption)) HC0.out; have HR253 := Aside0.mk (Kd.C_of_reads (h1 := fun _ => rfl) (hA9 _ (Kd.reads_of_C HR0.out))); have HC253 := Aside0.mk hC9; clear hA9 hC9 hi09 hsz9; have hcv10 := Kd.C_string (P := Try.prog) (A := A9) (c := (c0 - t251.toNat)) Try.underlying37 Try.underlying5 Try.underlying9 HR253.out; have hcv11d := fun n_ => Kd.C_string (P := Try.prog) (A := A9) (c := (c0 - t251.toNat)) Try.underlying37 Try.underlying5 Try.underlying9 (Kd.C_drewN HR253.out n_); have hcv11e : ∀ n_, Sem.run Try.prog (convert 37 9 (.slice A9 (((wrap64 (t251 + t250)) : Int).toNat - (t251 : Int).toNat) ((c0 - t251.toNat)))) (w.drewN n_) = .ok (.string (strOfNums ((l0.take ((wrap64 (t251 + t250)) : Int).toNat).drop (t251 : Int).toNat))) (w.drewN n_) := fun n_ => by have h_ := hcv11d n_; rwa [show ((l0.take ((wrap64 (t251 + t250)) : Int).toNat).drop (t251 : Int).toNat).length = ((wrap64 (t251 + t250)) : Int).toNat - (t251 : Int).toNat from by rw [List.length_drop, List.length_take]; have h2_ : (wrap64 (t251 + t250)) ≤ (l0.length : Int) := of_decide_eq_true (by first | (with_reducible assumption) | assumption); omega] at h_))
            go_ret3
            exact ⟨by first | rfl | (simp; done) | (simp [*]; done), by repeat (first | exact Drawn0.refl _ | apply Drawn0.step)⟩
          · rw [if_neg c8] at H
            exact absurd H (by simp)
        · rw [if_neg c7] at H
          exact absurd H (by simp)
      · rw [if_neg c6] at H
        exact absurd H (by simp)
  · replace c4 := Bool.eq_false_iff.mpr c4
    subst c4
    have H1 : (some ((⟨#[]⟩ : ByteArray), 0, false)) = some (r1, r2, r3) := by rw [if_neg (show ¬ (false = true) by decide)] at H; exact H
    clear H
    have H := H1
    clear H1
    simp only [Option.some.injEq, Prod.mk.injEq] at H
    obtain ⟨rfl, rfl, rfl⟩ := H
    go_enter Try.func38, Try.ntmps38
    go_wp2_with (first | ((with_reducible refine gate_callee (f := 31) rfl ?_); refine goesL_ (some 13) rfl rfl Try.func31 (by kernel_rfl) rfl #[.slice A0 l0.length c0, .int .i64 a1] rfl (by (try simp only [List.map_toArray, List.map_cons, List.map_nil]); first | done | rfl | (simp only [List.length_drop, List.length_take]; rfl)) ?_; (with_reducible refine (impl_GetNum.calls k _ _ l0 a1 t250 t251 false _ ?side1 ?side2 A3.out).mono ?_); (case side1 => repeat (first | exact HR0.out | (with_reducible refine Kd.C_alloc ?_ _) | (with_reducible refine Kd.C_drewN ?_ _) | (with_reducible refine Kd.C_drew ?_))); (case side2 => exact HC0.out); rintro e w' ⟨rfl, ⟨nd, rfl⟩⟩; refine ⟨_, rfl, ?_⟩))
    go_ret3
    exact ⟨by first | rfl | (simp; done) | (simp [*]; done), by repeat (first | exact Drawn0.refl _ | apply Drawn0.step)⟩

end Go.Proofs.Ytcfjmdhokeanpaa.P
