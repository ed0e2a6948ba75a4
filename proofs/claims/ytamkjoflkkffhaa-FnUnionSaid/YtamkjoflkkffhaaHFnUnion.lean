/- FnUnion: drawn pairs put into others are there, with their values; put in again nothing changes. No condition. -/
import Derived.Test.YtamkjoflkkffhaaLawFnUnion
import Derived.Test.YtamkjoflkkffhaaGet
import Derived.Test.YtamkjoflkkffhaaDrawPairs
import Derived.Test.YtamkjoflkkffhaaPx0
import Derived.Test.YtamkjoflkkffhaaPx13
import Derived.Test.YtamkjoflkkffhaaPx15
import Derived.Test.YtamkjoflkkffhaaPx39
import Derived.Test.YtamkjoflkkffhaaPx41
import Derived.Test.YtamkjoflkkffhaaPx42
namespace Go.Proofs.Ytamkjoflkkffhaa.fnUnion
open Go.RowKit Go.Proofs.YtamkjoflkkffhaaW.PrintWords Go.Proofs.YtamkjoflkkffhaaW.PrintLast Go.Proofs.YtamkjoflkkffhaaW.PrintMore Go.Proofs.Ytamkjoflkkffhaa.P
set_option linter.unusedVariables false
set_option linter.unusedSimpArgs false
theorem DrawUnionOf_some (s : List Int) (hs : s.length ≤ 1048576) : ∃ a b, Ev (fun k => spec_DrawUnionOf.f k s) (a, b) ∧ PR a ∧ a.length ≤ 9 ∧ PR b ∧ b.length ≤ 9 := by
  obtain ⟨y, e, h⟩ := l1New_some s hs
  obtain ⟨a, q, y2, e2, h2, ha, hla⟩ := l3Any_some h y
  obtain ⟨b, q3, y3, e3, h3, hb, hlb⟩ := l3Any_some h2 y2
  obtain ⟨K1, e1⟩ := Ev.get e
  obtain ⟨K2, e2⟩ := Ev.get e2
  obtain ⟨K3, e3⟩ := Ev.get e3
  refine ⟨a, b, ⟨K1 + K2 + K3, fun k hk => ?_⟩, ha, hla, hb, hlb⟩
  show spec_DrawUnionOf.f k s = _
  unfold spec_DrawUnionOf.f
  rw [e1 _ (by omega), Option.bind_some, e2 _ (by omega), Option.bind_some, e3 _ (by omega), Option.bind_some]
theorem loop (a b u : List S53) (hb : b.length ≤ 1000) (hg : ∀ p ∈ b, getO u p.f0.toList = some p.f1) (R : Bool)
    (hend : Ev (fun k => (impl_UnionOf.f k u b).bind fun t601 => ((laws_samePairs.f k t601 u).bind fun t604 => (if t604 = true then (if (u.length : Int) ≥ (a.length : Int) then (if (u.length : Int) ≤ (wrap64 ((a.length : Int) + (b.length : Int))) then ((impl_UnionOf.f k a (([] : List (S53)))).bind fun t608 => ((impl_UnionOf.f k t608 b).bind fun t611 => ((laws_samePairs.f k t611 u).bind fun t614 => (some t614)))) else (some false)) else (some false)) else (some false)))) R) :
    ∀ (d i : Nat), b.length - i = d → i ≤ b.length → Ev (fun k => laws_FnUnion.l0 k a b u (i : Int)) R := by
  intro d
  induction d with
  | zero =>
    intro i hd hi
    refine Ev.up hend (fun k hk => ?_)
    simp only [laws_FnUnion.l0]
    rw [if_neg (by omega)]
    exact hk
  | succ d ih =>
    intro i hd hi
    have hil : i < b.length := by omega
    have h1 := hg b[i] (List.getElem_mem hil)
    have hr := rd_53_nat b i hil
    have hk1 := GetKey_get u b[i].f0
    rw [h1] at hk1
    have c1 : (i : Int) < (b.length : Int) := by omega
    have c2 : (0 : Int) ≤ (i : Int) := by omega
    have hw : wrap64 ((i : Int) + 1) = ((i + 1 : Nat) : Int) := w64 (by omega) (by omega)
    refine Ev.up (ih (i + 1) (by omega) (by omega)) (fun k hk => ?_)
    simp only [laws_FnUnion.l0]
    rw [if_pos c1, if_pos c2, hr, hk1, Option.bind_some]
    simp only [ansO]
    first
      | (rw [if_pos trivial, if_pos trivial, hw]; exact hk)
      | (rw [hw]; simpa using hk)
theorem pure_holds : Pure := by
  intro s h0
  by_cases c : (s.length : Int) > 1048576
  · refine ⟨0, ?_⟩
    unfold laws_FnUnion.f laws_big.f
    rw [Option.bind_some, if_pos (by simpa using c)]
  obtain ⟨a, b, e, ha, hla, hb, hlb⟩ := DrawUnionOf_some s (by omega)
  obtain ⟨u, hu⟩ : ∃ u, u = unionM a b := ⟨_, rfl⟩
  have hul := unionM_len b a
  rw [← hu] at hul
  have hub := unionM_len b u
  obtain ⟨K1, e1⟩ := Ev.get e
  obtain ⟨K2, e2⟩ := Ev.get (hu ▸ impl_UnionOf_ev a b (by omega) (by omega))
  obtain ⟨K3, e3⟩ := Ev.get (hu ▸ spec_UnionOf_ev a b (by omega) (by omega))
  obtain ⟨K4, e4⟩ := Ev.get (samePairs_ev u (by omega))
  obtain ⟨K5, e5⟩ := Ev.get (spec_PairsOk_ev a (by omega) (fun p hp => by have := (ha p hp).1; omega))
  obtain ⟨K6, e6⟩ := Ev.get (spec_PairsOk_ev b (by omega) (fun p hp => by have := (hb p hp).1; omega))
  -- the pairs that break a rule: the same question again
  have jt : ∀ k, K3 + K4 + 1 ≤ k → laws_FnUnion.j0 k a b u true = some true := fun k hk => by
    obtain ⟨k, rfl⟩ : ∃ m, k = m + 1 := ⟨k - 1, by omega⟩
    simp only [laws_FnUnion.j0]
    rw [if_pos trivial, e3 _ (by omega), Option.bind_some, e4 _ (by omega), Option.bind_some]
  by_cases ca : pokM a a.length 0 = true
  · by_cases cb : pokM b b.length 0 = true
    · have hO := OKP.of cb
      have hg : ∀ p ∈ b, getO u p.f0.toList = some p.f1 := fun p hp => by rw [hu]; exact union_get b a hO.apart p hp
      have hsame := union_same b u hg
      obtain ⟨K7, e7⟩ := Ev.get (impl_UnionOf_ev u b (by omega) (by omega))
      rw [hsame] at e7
      obtain ⟨K8, e8⟩ := Ev.get (impl_UnionOf_ev a [] (by omega) (by simp))
      have hnil : unionM a [] = a := rfl
      rw [hnil] at e8
      have d1 : (u.length : Int) ≥ (a.length : Int) := by omega
      have d2 : (u.length : Int) ≤ wrap64 ((a.length : Int) + (b.length : Int)) := by rw [w64 (by omega) (by omega)]; omega
      have hend : Ev (fun k => (impl_UnionOf.f k u b).bind fun t601 => ((laws_samePairs.f k t601 u).bind fun t604 => (if t604 = true then (if (u.length : Int) ≥ (a.length : Int) then (if (u.length : Int) ≤ (wrap64 ((a.length : Int) + (b.length : Int))) then ((impl_UnionOf.f k a (([] : List (S53)))).bind fun t608 => ((impl_UnionOf.f k t608 b).bind fun t611 => ((laws_samePairs.f k t611 u).bind fun t614 => (some t614)))) else (some false)) else (some false)) else (some false)))) true := by
        refine Ev.mk (K2 + K4 + K7 + K8) (fun k hk => ?_)
        have g2 := e2 k (by omega)
        have g4 := e4 k (by omega)
        have g7 := e7 k (by omega)
        have g8 := e8 k (by omega)
        show (impl_UnionOf.f k u b).bind _ = _
        rw [g7, Option.bind_some, g4, Option.bind_some, if_pos rfl, if_pos d1, if_pos d2, g8, Option.bind_some, g2, Option.bind_some, g4, Option.bind_some]
      obtain ⟨K9, e9⟩ := Ev.get (loop a b u (by omega) hg true hend _ 0 rfl (by omega))
      refine ⟨K1 + K2 + K3 + K4 + K5 + K6 + K7 + K8 + K9 + 1, ?_⟩
      unfold laws_FnUnion.f laws_big.f
      rw [Option.bind_some, if_neg (by simpa using c), e1 _ (by omega), Option.bind_some, e2 _ (by omega), Option.bind_some, e3 _ (by omega), Option.bind_some, e4 _ (by omega), Option.bind_some, if_pos rfl, e5 _ (by omega), Option.bind_some, if_pos ca, e6 _ (by omega), Option.bind_some, cb]
      simp only [laws_FnUnion.j0]
      rw [if_neg (by simp)]
      exact e9 _ (by omega)
    · refine ⟨K1 + K2 + K3 + K4 + K5 + K6 + 1, ?_⟩
      have cbf : pokM b b.length 0 = false := by simpa using cb
      unfold laws_FnUnion.f laws_big.f
      rw [Option.bind_some, if_neg (by simpa using c), e1 _ (by omega), Option.bind_some, e2 _ (by omega), Option.bind_some, e3 _ (by omega), Option.bind_some, e4 _ (by omega), Option.bind_some, if_pos rfl, e5 _ (by omega), Option.bind_some, if_pos ca, e6 _ (by omega), Option.bind_some, cbf]
      exact jt _ (by omega)
  · refine ⟨K1 + K2 + K3 + K4 + K5 + K6 + 1, ?_⟩
    unfold laws_FnUnion.f laws_big.f
    rw [Option.bind_some, if_neg (by simpa using c), e1 _ (by omega), Option.bind_some, e2 _ (by omega), Option.bind_some, e3 _ (by omega), Option.bind_some, e4 _ (by omega), Option.bind_some, if_pos rfl, e5 _ (by omega), Option.bind_some, if_neg ca]
    exact jt _ (by omega)
end Go.Proofs.Ytamkjoflkkffhaa.fnUnion
namespace Go.Proofs.Ytamkjoflkkffhaa
theorem fnUnion_holds : Rows.FnUnionSaid := fnUnion.proved fnUnion.pure_holds
#print axioms fnUnion_holds
end Go.Proofs.Ytamkjoflkkffhaa
