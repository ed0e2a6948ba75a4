/- The row of the law FnExactPartAt out of one pure statement about its printed function. No condition. -/
import Derived.Test.YtgaalomhipfgjaaRows
import Derived.Test.YtgaalomhipfgjaaOpen
import Derived.Test.YtgaalomhipfgjaaPx14
import Derived.WalkKit
import Derived.ProofKit
import Derived.OpenShut
import Derived.ShutString
import Derived.ChangeOld
import Derived.Below
import Derived.SizedLaws
namespace Go.Proofs.Ytgaalomhipfgjaa.fnExactPartAt
open Go.ChangeShapes Go.WideShapes Go.ChangeAt Go.RowKit Go.Proofs.YtgaalomhipfgjaaW.PrintWords Go.Proofs.Ytgaalomhipfgjaa.P
open Go.ChangeMaps (open_string shut_string)
set_option linter.unusedVariables false
/-- The one pure statement. -/
def Pure : Prop := ∀ (y0 : List (S66)) (y1 : S66) (y2 : Int) (y3 : Int) (y4 : List ByteArray), (y0.length ≤ 9223372036854775807 ∧ ∀ y ∈ y0, ok66 y) → ok66 y1 → (Lit.int .i64 y2).wf = true → (Lit.int .i64 y3).wf = true → (y4.length ≤ 9223372036854775807 ∧ ∀ y ∈ y4, y.size ≤ 9223372036854775807) → ∃ k, laws_FnExactPartAt.f k y0 y1.f0 y1.f1 y2 y3 y4 = some true
theorem own : ownKnob Try.prog.godebug = none := by kernel_rfl
theorem laidOut : laidOutB Try.prog = true := by kernel_rfl
set_option maxRecDepth 100000 in
theorem lifted (Q : Pure) (os : Os) (started : os.Started) (H : Type) (enc : TypeId × Value → H) :
    ReturnsInHanded {} Try.checked os 8 .any (Rows.fnExactPartAtSpec.pre6 enc Try.prog Try.f8 Rows.fnExactPartAtRow.domain false) (Rows.fnExactPartAtSpec.post enc Try.prog Try.f8 false true false false) := by
  refine returnsInHanded_of_change_sized (C := Try.checked) own started (by kernel_rfl) Try.func8
    (ChangeSpec.witness6 (enc := enc) (C := Try.checked) false ⟨#[], #[.slice none 0 0, .agg #[.string ByteArray.empty, .string ByteArray.empty], .int .i64 0, .int .i64 0, .slice none 0 0], []⟩ 12 (by kernel_rfl) (by kernel_rfl) (by kernel_rfl) (by kernel_rfl)) ?_
  intro W base args ds gs before hval0 hW hcnd hsz0 _
  have hval : ∀ (j : Nat) t v, Try.f8.params[j]? = some t → args[j]? = some v → Value.okWide Try.prog W .any base t v := hval0
  have hW' := hW
  obtain ⟨p, q, hA0, hV, rfl, hfz, hnd⟩ := hW
  have hA : DataW.TrodAll enc Try.prog W 0 (fun _ => true) true Try.f8.params.toList args.toList ds p := hA0
  rw [Try.params8] at hA hval
  obtain ⟨v0, vs0, d0, ds0, p0, q0, hargs, rfl, rfl, h0, r0⟩ := trodAll_cons hA
  obtain ⟨v1, vs1, d1, ds1, p1, q1, rfl, rfl, rfl, h1, r1⟩ := trodAll_cons r0
  obtain ⟨v2, vs2, d2, ds2, p2, q2, rfl, rfl, rfl, h2, r2⟩ := trodAll_cons r1
  obtain ⟨v3, vs3, d3, ds3, p3, q3, rfl, rfl, rfl, h3, r3⟩ := trodAll_cons r2
  obtain ⟨v4, vs4, d4, ds4, p4, q4, rfl, rfl, rfl, h4, r4⟩ := trodAll_cons r3
  obtain ⟨rfl, rfl, rfl⟩ := trodAll_nil r4
  obtain rfl : args = #[v0, v1, v2, v3, v4] := by cases args; simp_all
  obtain ⟨rfl, rfl⟩ := trodVars_none hV
  have k0 := h0
  have lt0 : ∀ x ∈ p0, x.block < W.heap.size := by obtain ⟨m, hm⟩ := k0; exact DataW.trod_lt m _ _ _ hm
  obtain ⟨fu0, hf0⟩ := h0
  obtain ⟨y0, hk0, g0⟩ := (opens_slice (e := 66) z66 Try.underlying65 (by kernel_rfl) opens_66) enc W 0 _ _ fu0 _ _ hf0
  obtain ⟨a0, len0, cap0, rfl⟩ := okWide_slice Try.underlying65 (hval 0 65 v0 rfl rfl)
  obtain ⟨A0, c0, he0, hl0, hC0⟩ := hk0
  replace he0 : [Value.slice a0 len0 cap0] = [.slice A0 y0.length c0] := he0
  simp only [List.cons.injEq, Value.slice.injEq, and_true] at he0
  obtain ⟨rfl, rfl, rfl⟩ := he0
  have k1 := h1
  have lt1 : ∀ x ∈ p1, x.block < W.heap.size := by obtain ⟨m, hm⟩ := k1; exact DataW.trod_lt m _ _ _ hm
  obtain ⟨fu1, hf1⟩ := h1
  obtain ⟨y1, hk1, g1⟩ := opens_66 enc W 0 _ _ fu1 _ _ hf1
  obtain ⟨cs1, rfl, _⟩ := okWide_struct Try.underlying66 (hval 1 66 v1 rfl rfl)
  have he1 := k66_open hk1
  obtain rfl : cs1 = #[.string y1.f0, .string y1.f1] := Array.toList_inj.mp he1
  have k2 := h2
  have lt2 : ∀ x ∈ p2, x.block < W.heap.size := by obtain ⟨m, hm⟩ := k2; exact DataW.trod_lt m _ _ _ hm
  obtain ⟨fu2, hf2⟩ := h2
  obtain ⟨y2, hk2, g2⟩ := (opens_int Try.underlying3) enc W 0 _ _ fu2 _ _ hf2
  obtain ⟨n2, rfl⟩ := okWide_int Try.underlying3 (hval 2 3 v2 rfl rfl)
  obtain rfl : y2 = n2 := by have h_ : [Value.int .i64 n2] = [Value.int .i64 y2] := hk2; injection h_ with h_ _; injection h_ with _ h_; exact h_.symm
  have k3 := h3
  have lt3 : ∀ x ∈ p3, x.block < W.heap.size := by obtain ⟨m, hm⟩ := k3; exact DataW.trod_lt m _ _ _ hm
  obtain ⟨fu3, hf3⟩ := h3
  obtain ⟨y3, hk3, g3⟩ := (opens_int Try.underlying3) enc W 0 _ _ fu3 _ _ hf3
  obtain ⟨n3, rfl⟩ := okWide_int Try.underlying3 (hval 3 3 v3 rfl rfl)
  obtain rfl : y3 = n3 := by have h_ : [Value.int .i64 n3] = [Value.int .i64 y3] := hk3; injection h_ with h_ _; injection h_ with _ h_; exact h_.symm
  have k4 := h4
  have lt4 : ∀ x ∈ p4, x.block < W.heap.size := by obtain ⟨m, hm⟩ := k4; exact DataW.trod_lt m _ _ _ hm
  obtain ⟨fu4, hf4⟩ := h4
  obtain ⟨y4, hk4, g4⟩ := (opens_slice (e := 9) (⟨#[]⟩ : ByteArray) Try.underlying27 (by kernel_rfl) (opens_string Try.underlying9)) enc W 0 _ _ fu4 _ _ hf4
  obtain ⟨a4, len4, cap4, rfl⟩ := okWide_slice Try.underlying27 (hval 4 27 v4 rfl rfl)
  obtain ⟨A4, c4, he4, hl4, hC4⟩ := hk4
  replace he4 : [Value.slice a4 len4 cap4] = [.slice A4 y4.length c4] := he4
  simp only [List.cons.injEq, Value.slice.injEq, and_true] at he4
  obtain ⟨rfl, rfl, rfl⟩ := he4
  clear hA0 hval0 hsz0
  obtain ⟨k, hq⟩ := Q y0 y1 y2 y3 y4 g0 g1 g2 g3 g4
  refine (laws_FnExactPartAt.calls k _ _ y0 y1.f0 y1.f1 y2 y3 _ _ y4 true W hC0 hl0 hC4 hl4 hq).mono fun e W' ⟨he, bel0⟩ => ?_
  have bel : Below W.heap.size W W' := bel0
  subst he
  exact ⟨_, rfl, _, _, _, [], _, [], hW', trodAll_mk1 (shut_bool Try.underlying4 _), (trodAll_cons_mk (Below.trod laidOut (by kernel_rfl) (of_decide_eq_true (by kernel_rfl)) k0 bel lt0) (trodAll_cons_mk (Below.trod laidOut (by kernel_rfl) (of_decide_eq_true (by kernel_rfl)) k1 bel lt1) (trodAll_cons_mk (Below.trod laidOut (by kernel_rfl) (of_decide_eq_true (by kernel_rfl)) k2 bel lt2) (trodAll_cons_mk (Below.trod laidOut (by kernel_rfl) (of_decide_eq_true (by kernel_rfl)) k3 bel lt3) (trodAll_cons_mk (Below.trod laidOut (by kernel_rfl) (of_decide_eq_true (by kernel_rfl)) k4 bel lt4) trodAll_mk0))))), rfl, bel.frame _, fun h => by cases h⟩
theorem over (Q : Pure) : Rows.fnExactPartAtRow.holds Try.pinned (OpenSpec.ofChange Rows.fnExactPartAtSpec) :=
  OpenClaim.holds_of_wide 8 Try.f8 rfl rfl rfl rfl rfl rfl rfl ⟨rfl, rfl, rfl, rfl, rfl⟩ rfl rfl rfl rfl rfl (by kernel_rfl) Try.func8 (by kernel_rfl)
    (of_decide_eq_true (by kernel_rfl)) (by unfold Func.isWrapper; first | (rw [if_pos (by decide +kernel)]; kernel_rfl) | (rw [if_neg (by decide +kernel)]; exact ⟨rfl, rfl⟩))
    (fun os started H enc _ => lifted Q os started H enc)
theorem proved (Q : Pure) : Rows.FnExactPartAtSaid := over Q
end Go.Proofs.Ytgaalomhipfgjaa.fnExactPartAt
