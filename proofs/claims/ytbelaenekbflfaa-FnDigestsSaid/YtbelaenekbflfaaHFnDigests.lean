/- FnDigests: the digest of a drawn text has 32 bytes, which come back of their hex digits. No condition. -/
import Derived.Test.YtbelaenekbflfaaLawFnDigests
import Derived.Test.YtbelaenekbflfaaHexOf
import Derived.Test.YtbelaenekbflfaaTree
import Derived.Test.YtbelaenekbflfaaDraw
import Derived.Test.YtbelaenekbflfaaPx14
import Derived.Test.YtbelaenekbflfaaPx4
import Derived.Test.YtbelaenekbflfaaPx5
namespace Go.Proofs.Ytbelaenekbflfaa.fnDigests
open Go.RowKit Go.Proofs.YtbelaenekbflfaaW.PrintWords Go.Proofs.YtbelaenekbflfaaW.PrintLast Go.Proofs.YtbelaenekbflfaaW.PrintMore Go.Proofs.Ytbelaenekbflfaa.P
set_option linter.unusedVariables false
set_option linter.unusedSimpArgs false
theorem DrawNodeOf_some (s : List Int) (hs : s.length ≤ 1048576) : ∃ a b, Ev (fun k => spec_DrawNodeOf.f k s) (a, b) ∧ a.size ≤ 9 ∧ b.size ≤ 9 := by
  obtain ⟨y, e, h⟩ := l1New_some s hs
  obtain ⟨b, q, y2, e2, h2, hb, hl⟩ := l1Some_some h y
  obtain ⟨b2, q3, y3, e3, h3, hb2, hl2⟩ := l1Some_some h2 y2
  obtain ⟨K1, e1⟩ := Ev.get e
  obtain ⟨K2, e2⟩ := Ev.get e2
  obtain ⟨K3, e3⟩ := Ev.get e3
  refine ⟨strOfNums b, strOfNums b2, ⟨K1 + K2 + K3, fun k hk => ?_⟩, by rw [strOfNums_size]; omega, by rw [strOfNums_size]; omega⟩
  show spec_DrawNodeOf.f k s = _
  unfold spec_DrawNodeOf.f
  rw [e1 _ (by omega), Option.bind_some, e2 _ (by omega), Option.bind_some, e3 _ (by omega), Option.bind_some]
theorem pure_holds : Pure := by
  intro s h0
  by_cases c : (s.length : Int) > 1048576
  · refine ⟨0, ?_⟩
    unfold laws_FnDigests.f laws_big.f
    rw [Option.bind_some, if_pos (by simpa using c)]
  obtain ⟨a, b, e, ha, hb⟩ := DrawNodeOf_some s (by omega)
  obtain ⟨K1, e1⟩ := Ev.get e
  have hn := nodeM_size a b
  obtain ⟨K2, e2⟩ := Ev.get (impl_NodeOf_ev a b (by omega) (by omega))
  obtain ⟨K3, e3⟩ := Ev.get (spec_NodeOf_ev a b (by omega) (by omega))
  obtain ⟨d, hd⟩ : ∃ d, d = nodeM a b := ⟨_, rfl⟩
  rw [← hd] at hn e2 e3
  obtain ⟨K4, e4⟩ := Ev.get (impl_UnHex_ev (hexS d) (by rw [hexS_size]; omega))
  rw [hexS_back] at e4
  refine ⟨K1 + K2 + K3 + K4, ?_⟩
  unfold laws_FnDigests.f laws_big.f
  rw [Option.bind_some, if_neg (by simpa using c), e1 _ (by omega), Option.bind_some, e2 _ (by omega), Option.bind_some, impl_HexOf_eq d (by omega), Option.bind_some, e4 _ (by omega), Option.bind_some, if_pos (by omega), if_pos rfl, if_pos rfl, e3 _ (by omega), Option.bind_some, if_pos rfl, Option.bind_some, hexS_size, hn]
  rfl
end Go.Proofs.Ytbelaenekbflfaa.fnDigests
namespace Go.Proofs.Ytbelaenekbflfaa
theorem fnDigests_holds : Rows.FnDigestsSaid := fnDigests.proved fnDigests.pure_holds
#print axioms fnDigests_holds
end Go.Proofs.Ytbelaenekbflfaa
