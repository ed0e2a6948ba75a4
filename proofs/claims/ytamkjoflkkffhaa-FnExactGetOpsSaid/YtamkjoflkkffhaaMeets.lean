/- Orders against pairs, orders written as bytes: what the program's functions answer, and the reference's. No condition but bounds on lengths. -/
import Derived.Test.YtamkjoflkkffhaaCols
import Derived.Test.YtamkjoflkkffhaaOks
import Derived.Test.YtamkjoflkkffhaaPx0
import Derived.Test.YtamkjoflkkffhaaPx12
namespace Go.Proofs.Ytamkjoflkkffhaa.P
open Go.RowKit Go.Proofs.YtamkjoflkkffhaaW.PrintWords Go.Proofs.YtamkjoflkkffhaaW.PrintLast Go.Proofs.YtamkjoflkkffhaaW.PrintMore
set_option linter.unusedVariables false
set_option linter.unusedSimpArgs false
/-- Bytes with orders appended. -/
def pop1 (b : List Int) (o : S84) : List Int := putTextM (putTextM (putNumM b o.f0) o.f1) o.f2
def popsM (b : List Int) (l : List S84) : List Int := l.foldl pop1 b
def putOpsM (l : List S84) : List Int := if ookM l l.length 0 = true then popsM (putNumM [] l.length) l else []
theorem pop1_len (b : List Int) (o : S84) : (pop1 b o).length ≤ b.length + 15 + o.f1.size + o.f2.size := by
  have h1 := putNumM_len b o.f0
  have h2 := putTextM_len (putNumM b o.f0) o.f1
  have h3 := putTextM_len (putTextM (putNumM b o.f0) o.f1) o.f2
  unfold pop1
  omega
theorem popsM_len (l : List S84) (hs : ∀ o ∈ l, (o.f1.size : Int) + o.f2.size ≤ 1048576) : ∀ b : List Int, (popsM b l).length ≤ b.length + 2000000 * l.length := by
  induction l with
  | nil => intro b; simp [popsM]
  | cons o l ih =>
    intro b
    have h1 := ih (fun q hq => hs q (List.mem_cons_of_mem _ hq)) (pop1 b o)
    have h2 := pop1_len b o
    have h3 := hs o List.mem_cons_self
    simp only [popsM, List.foldl_cons, List.length_cons] at h1 ⊢
    omega
theorem putOpsM_len (l : List S84) (hs : ∀ o ∈ l, (o.f1.size : Int) + o.f2.size ≤ 1048576) : (putOpsM l).length ≤ 5 + 2000000 * l.length := by
  unfold putOpsM
  split
  · have h1 := popsM_len l hs (putNumM [] l.length)
    have h2 := putNumM_len [] l.length
    simp only [List.length_nil] at h2
    omega
  · simp
theorem impl_putOps_loop (l : List S84) (hn : l.length ≤ 10000000) (hs : ∀ o ∈ l, (o.f1.size : Int) + o.f2.size ≤ 1048576) : ∀ (d i : Nat) (b : List Int), l.length - i = d → i ≤ l.length → b.length + 2000000 * d ≤ 90000000000000 →
    Ev (fun k => impl_putOps.l0 k b l (l.length : Int) (i : Int)) (popsM b (l.drop i)) := by
  intro d
  induction d with
  | zero =>
    intro i b hd hi _
    obtain rfl : i = l.length := by omega
    refine Ev.up (Ev.now _) (fun k _ => ?_)
    simp only [impl_putOps.l0]
    rw [if_neg (by omega), List.drop_length]
    rfl
  | succ d ih =>
    intro i b hd hi hb
    have hil : i < l.length := by omega
    have hsz := hs l[i] (List.getElem_mem hil)
    have h1 := putNumM_len b l[i].f0
    have h2 := putTextM_len (putNumM b l[i].f0) l[i].f1
    have h3 := pop1_len b l[i]
    obtain ⟨K1, e1⟩ := Ev.get (impl_putNum_ev b l[i].f0 (by omega))
    obtain ⟨K2, e2⟩ := Ev.get (impl_putText_ev (putNumM b l[i].f0) l[i].f1 (by omega) (by omega))
    obtain ⟨K3, e3⟩ := Ev.get (impl_putText_ev (putTextM (putNumM b l[i].f0) l[i].f1) l[i].f2 (by omega) (by omega))
    obtain ⟨K4, e4⟩ := Ev.get (ih (i + 1) (pop1 b l[i]) (by omega) (by omega) (by omega))
    refine ⟨K1 + K2 + K3 + K4 + 1, fun k hk => ?_⟩
    obtain ⟨k, rfl⟩ : ∃ j, k = j + 1 := ⟨k - 1, by omega⟩
    have hx := e4 k (by omega)
    show impl_putOps.l0 (k + 1) _ _ _ _ = _
    simp only [impl_putOps.l0]
    rw [if_pos (by omega), if_pos (by omega), if_pos (by omega), rd_84_nat l i hil, e1 _ (by omega), Option.bind_some, e2 _ (by omega), Option.bind_some, e3 _ (by omega), Option.bind_some, w64 (by omega) (by omega), List.drop_eq_getElem_cons hil]
    exact hx
end Go.Proofs.Ytamkjoflkkffhaa.P
