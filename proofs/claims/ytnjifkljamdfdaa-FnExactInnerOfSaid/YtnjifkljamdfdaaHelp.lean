/- The laws' helpers: copies, comparisons, marks and what is held, each by what it answers. No condition but bounds on lengths. -/
import Derived.Test.YtnjifkljamdfdaaPlain
import Derived.Test.YtnjifkljamdfdaaPx5
namespace Go.Proofs.Ytnjifkljamdfdaa.P
open Go.RowKit Go.Proofs.YtnjifkljamdfdaaW.PrintWords Go.Proofs.YtnjifkljamdfdaaW.PrintLast Go.Proofs.YtnjifkljamdfdaaW.PrintMore
set_option linter.unusedVariables false
set_option linter.unusedSimpArgs false
theorem toByteS_loop (x0 : List Int) (hn : x0.length ≤ 140737488355328) : ∀ d i : Nat, x0.length - i = d → i ≤ x0.length →
    Ev (fun k => laws_toByteS.l0 k x0 ((x0.take i).map id ++ List.replicate (x0.length - i) 0) (i : Int)) x0 := by
  intro d
  induction d with
  | zero =>
    intro i hd hi
    obtain rfl : i = x0.length := by omega
    refine Ev.up (Ev.now x0) (fun k _ => ?_)
    simp only [laws_toByteS.l0]
    rw [if_neg (by omega), copy_end]
    simp
  | succ d ih =>
    intro i hd hi
    refine Ev.up (ih (i + 1) (by omega) (by omega)) (fun k h => ?_)
    have hl := copy_len x0 id (0 : Int) i hi
    have hs := copy_step x0 id (0 : Int) i (by omega)
    simp only [laws_toByteS.l0]
    rw [if_pos (by omega), if_pos (by omega), if_pos (by rw [hl]; omega), rd_nat x0 i (by omega), Int.toNat_natCast, w64 (by omega) (by omega)]
    rw [id] at hs
    rw [hs]
    exact h
theorem toByteS_ev (l : List Int) (hn : l.length ≤ 140737488355328) : Ev (fun k => laws_toByteS.f k l) l := by
  obtain ⟨K, hK⟩ := Ev.get (toByteS_loop l hn _ 0 rfl (by omega))
  refine ⟨K, fun k hk => ?_⟩
  have h := hK k hk
  show laws_toByteS.f k l = some l
  unfold laws_toByteS.f
  rw [if_pos (by omega), if_pos (by omega), Int.toNat_natCast, copy_start l id]
  exact h
end Go.Proofs.Ytnjifkljamdfdaa.P
