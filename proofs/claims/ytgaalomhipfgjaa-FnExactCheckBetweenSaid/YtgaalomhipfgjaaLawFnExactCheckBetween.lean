/- The row of the law FnExactCheckBetween out of one pure statement about its printed function. No condition. -/
import Derived.Test.YtgaalomhipfgjaaRows
import Derived.Test.YtgaalomhipfgjaaOpen
import Derived.Test.YtgaalomhipfgjaaPx13
import Derived.WalkKit
import Derived.ProofKit
import Derived.OpenShut
import Derived.ShutString
import Derived.ChangeOld
import Derived.Below
import Derived.SizedLaws
namespace Go.Proofs.Ytgaalomhipfgjaa.fnExactCheckBetween
open Go.ChangeShapes Go.WideShapes Go.ChangeAt Go.RowKit Go.Proofs.YtgaalomhipfgjaaW.PrintWords Go.Proofs.Ytgaalomhipfgjaa.P
open Go.ChangeMaps (open_string shut_string)
set_option linter.unusedVariables false
/-- The one pure statement. -/
def Pure : Prop := ∀ (y0 : ByteArray) (y1 : ByteArray) (y2 : ByteArray) (y3 : S38), y0.size ≤ 9223372036854775807 → y1.size ≤ 9223372036854775807 → y2.size ≤ 9223372036854775807 → ok38 y3 → ∃ k, laws_FnExactCheckBetween.f k y0 y1 y2 y3.f0 y3.f1 y3.f2 = some true
theorem own : ownKnob Try.prog.godebug = none := by kernel_rfl
theorem laidOut : laidOutB Try.prog = true := by kernel_rfl
set_option maxRecDepth 100000 in
theorem lifted (Q : Pure) (os : Os) (started : os.Started) (H : Type) (enc : TypeId × Value → H) :
    ReturnsInHanded {} Try.checked os 4 .any (Rows.fnExactCheckBetweenSpec.pre6 enc Try.prog Try.f4 Rows.fnExactCheckBetweenRow.domain false) (Rows.fnExactCheckBetweenSpec.post enc Try.prog Try.f4 false true false false) := by
  refine returnsInHanded_of_change_sized (C := Try.checked) own started (by kernel_rfl) Try.func4
    (ChangeSpec.witness6 (enc := enc) (C := Try.checked) false ⟨#[], #[.string ByteArray.empty, .string ByteArray.empty, .string ByteArray.empty, .agg #[.int .i64 0, .int .i64 0, .slice none 0 0]], []⟩ 12 (by kernel_rfl) (by kernel_rfl) (by kernel_rfl) (by kernel_rfl)) ?_
  intro W base args ds gs before hval0 hW hcnd hsz0 _
  have hval : ∀ (j : Nat) t v, Try.f4.params[j]? = some t → args[j]? = some v → Value.okWide Try.prog W .any base t v := hval0
  have hW' := hW
  obtain ⟨p, q, hA0, hV, rfl, hfz, hnd⟩ := hW
  have hA : DataW.TrodAll enc Try.prog W 0 (fun _ => true) true Try.f4.params.toList args.toList ds p := hA0
  rw [Try.params4] at hA hval
  obtain ⟨v0, vs0, d0, ds0, p0, q0, hargs, rfl, rfl, h0, r0⟩ := trodAll_cons hA
  obtain ⟨v1, vs1, d1, ds1, p1, q1, rfl, rfl, rfl, h1, r1⟩ := trodAll_cons r0
  obtain ⟨v2, vs2, d2, ds2, p2, q2, rfl, rfl, rfl, h2, r2⟩ := trodAll_cons r1
  obtain ⟨v3, vs3, d3, ds3, p3, q3, rfl, rfl, rfl, h3, r3⟩ := trodAll_cons r2
  obtain ⟨rfl, rfl, rfl⟩ := trodAll_nil r3
  obtain rfl : args = #[v0, v1, v2, v3] := by cases args; simp_all
  obtain ⟨rfl, rfl⟩ := trodVars_none hV
  have k0 := h0
  have lt0 : ∀ x ∈ p0, x.block < W.heap.size := by obtain ⟨m, hm⟩ := k0; exact DataW.trod_lt m _ _ _ hm
  obtain ⟨fu0, hf0⟩ := h0
  obtain ⟨y0, hk0, g0⟩ := (opens_string Try.underlying9) enc W 0 _ _ fu0 _ _ hf0
  obtain ⟨n0, rfl⟩ := okWide_string Try.underlying9 (hval 0 9 v0 rfl rfl)
  obtain rfl : y0 = n0 := by have h_ : [Value.string n0] = [Value.string y0] := hk0; injection h_ with h_ _; injection h_ with h_; exact h_.symm
  have k1 := h1
  have lt1 : ∀ x ∈ p1, x.block < W.heap.size := by obtain ⟨m, hm⟩ := k1; exact DataW.trod_lt m _ _ _ hm
  obtain ⟨fu1, hf1⟩ := h1
  obtain ⟨y1, hk1, g1⟩ := (opens_string Try.underlying9) enc W 0 _ _ fu1 _ _ hf1
  obtain ⟨n1, rfl⟩ := okWide_string Try.underlying9 (hval 1 9 v1 rfl rfl)
  obtain rfl : y1 = n1 := by have h_ : [Value.string n1] = [Value.string y1] := hk1; injection h_ with h_ _; injection h_ with h_; exact h_.symm
  have k2 := h2
  have lt2 : ∀ x ∈ p2, x.block < W.heap.size := by obtain ⟨m, hm⟩ := k2; exact DataW.trod_lt m _ _ _ hm
  obtain ⟨fu2, hf2⟩ := h2
  obtain ⟨y2, hk2, g2⟩ := (opens_string Try.underlying9) enc W 0 _ _ fu2 _ _ hf2
  obtain ⟨n2, rfl⟩ := okWide_string Try.underlying9 (hval 2 9 v2 rfl rfl)
  obtain rfl : y2 = n2 := by have h_ : [Value.string n2] = [Value.string y2] := hk2; injection h_ with h_ _; injection h_ with h_; exact h_.symm
  have k3 := h3
  have lt3 : ∀ x ∈ p3, x.block < W.heap.size := by obtain ⟨m, hm⟩ := k3; exact DataW.trod_lt m _ _ _ hm
  obtain ⟨fu3, hf3⟩ := h3
  obtain ⟨y3, hk3, g3⟩ := opens_38 enc W 0 _ _ fu3 _ _ hf3
  obtain ⟨cs3, rfl, _⟩ := okWide_struct Try.underlying38 (hval 3 38 v3 rfl rfl)
  obtain ⟨A3_2, c3_2, he3, hl3_2, hC3_2⟩ := k38_open hk3
  obtain rfl : cs3 = #[.int .i64 y3.f0, .int .i64 y3.f1, .slice A3_2 y3.f2.length c3_2] := Array.toList_inj.mp he3
  clear hA0 hval0 hsz0
  obtain ⟨k, hq⟩ := Q y0 y1 y2 y3 g0 g1 g2 g3
  refine (laws_FnExactCheckBetween.calls k y0 y1 y2 y3.f0 y3.f1 _ _ y3.f2 true W hC3_2 hl3_2 hq).mono fun e W' ⟨he, bel0⟩ => ?_
  have bel : Below W.heap.size W W' := bel0
  subst he
  exact ⟨_, rfl, _, _, _, [], _, [], hW', trodAll_mk1 (shut_bool Try.underlying4 _), (trodAll_cons_mk (Below.trod laidOut (by kernel_rfl) (of_decide_eq_true (by kernel_rfl)) k0 bel lt0) (trodAll_cons_mk (Below.trod laidOut (by kernel_rfl) (of_decide_eq_true (by kernel_rfl)) k1 bel lt1) (trodAll_cons_mk (Below.trod laidOut (by kernel_rfl) (of_decide_eq_true (by kernel_rfl)) k2 bel lt2) (trodAll_cons_mk (Below.trod laidOut (by kernel_rfl) (of_decide_eq_true (by kernel_rfl)) k3 bel lt3) trodAll_mk0)))), rfl, bel.frame _, fun h => by cases h⟩
theorem over (Q : Pure) : Rows.fnExactCheckBetweenRow.holds Try.pinned (OpenSpec.ofChange Rows.fnExactCheckBetweenSpec) :=
  OpenClaim.holds_of_wide 4 Try.f4 rfl rfl rfl rfl rfl rfl rfl ⟨rfl, rfl, rfl, rfl, rfl⟩ rfl rfl rfl rfl rfl (by kernel_rfl) Try.func4 (by kernel_rfl)
    (of_decide_eq_true (by kernel_rfl)) (by unfold Func.isWrapper; first | (rw [if_pos (by decide +kernel)]; kernel_rfl) | (rw [if_neg (by decide +kernel)]; exact ⟨rfl, rfl⟩))
    (fun os started H enc _ => lifted Q os started H enc)
theorem proved (Q : Pure) : Rows.FnExactCheckBetweenSaid := over Q
end Go.Proofs.Ytgaalomhipfgjaa.fnExactCheckBetween
