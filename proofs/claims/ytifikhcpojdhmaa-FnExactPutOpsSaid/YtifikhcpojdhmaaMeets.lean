/- Orders against pairs, orders written as bytes: what the program's functions answer, and the reference's. No condition but bounds on lengths. -/
import Derived.Test.YtifikhcpojdhmaaCols
import Derived.Test.YtifikhcpojdhmaaOks
import Derived.Test.YtifikhcpojdhmaaPx0
import Derived.Test.YtifikhcpojdhmaaPx20
import Derived.Test.YtifikhcpojdhmaaPx24
import Derived.Test.YtifikhcpojdhmaaPx3
import Derived.Test.YtifikhcpojdhmaaPx4
namespace Go.Proofs.Ytifikhcpojdhmaa.P
open Go.RowKit Go.Proofs.YtifikhcpojdhmaaW.PrintWords Go.Proofs.YtifikhcpojdhmaaW.PrintLast Go.Proofs.YtifikhcpojdhmaaW.PrintMore
set_option linter.unusedVariables false
set_option linter.unusedSimpArgs false
/-- Whether the pairs meet the orders from a place on: orders left, place. -/
def meetsM (l : List S56) (x : List S41) : Nat → Nat → Bool
  | 0, _ => true
  | d + 1, i =>
    if (rd_T41 x i).f0 = 3 then
      if (rd_T41 x i).f2.toList = ([] : List UInt8) then
        if (atM l (pairIdx l (rd_T41 x i).f1.toList 0)).2 = true then false
        else if (atM l (pairIdx l (rd_T41 x i).f1.toList 0)).1.toList = (rd_T41 x i).f2.toList then meetsM l x d (i + 1) else false
      else if (atM l (pairIdx l (rd_T41 x i).f1.toList 0)).2 = true then
        if (atM l (pairIdx l (rd_T41 x i).f1.toList 0)).1.toList = (rd_T41 x i).f2.toList then meetsM l x d (i + 1) else false
      else false
    else meetsM l x d (i + 1)
theorem spec_Meets_loop (l : List S56) (hl : l.length ≤ 1000000000000) (x : List S41) (hn : x.length ≤ 1000000000000) : ∀ d i : Nat, x.length - i = d → i ≤ x.length →
    Ev (fun k => spec_Meets.l0 k l x (i : Int)) (meetsM l x d i) := by
  intro d
  induction d with
  | zero =>
    intro i hd hi
    refine Ev.up (Ev.now _) (fun k _ => ?_)
    simp only [spec_Meets.l0]
    rw [if_neg (by omega)]
    rfl
  | succ d ih =>
    intro i hd hi
    obtain ⟨K1, e1⟩ := Ev.get (spec_GetKey_ev l hl (rd_T41 x (i : Int)).f1)
    obtain ⟨K2, e2⟩ := Ev.get (ih (i + 1) (by omega) (by omega))
    refine ⟨K1 + K2 + 1, fun k hk => ?_⟩
    obtain ⟨k, rfl⟩ : ∃ j, k = j + 1 := ⟨k - 1, by omega⟩
    have hx := e2 k (by omega)
    show spec_Meets.l0 (k + 1) _ _ _ = _
    simp only [spec_Meets.l0]
    rw [if_pos (by omega), if_pos (by omega), e1 _ (by omega), Option.bind_some, w64 (by omega) (by omega), meetsM]
    by_cases c : (rd_T41 x (i : Int)).f0 = 3
    · rw [if_pos c, if_pos c]
      by_cases c2 : (rd_T41 x i).f2.toList = ([] : List UInt8)
      · rw [if_pos c2, if_pos c2]
        by_cases c4 : (atM l (pairIdx l (rd_T41 x i).f1.toList 0)).2 = true
        · rw [if_pos c4, if_pos c4]
        · rw [if_neg c4, if_neg c4]
          by_cases c3 : (atM l (pairIdx l (rd_T41 x i).f1.toList 0)).1.toList = (rd_T41 x i).f2.toList
          · rw [if_pos c3, if_pos c3]; exact hx
          · rw [if_neg c3, if_neg c3]
      · rw [if_neg c2, if_neg c2]
        by_cases c4 : (atM l (pairIdx l (rd_T41 x i).f1.toList 0)).2 = true
        · rw [if_pos c4, if_pos c4]
          by_cases c3 : (atM l (pairIdx l (rd_T41 x i).f1.toList 0)).1.toList = (rd_T41 x i).f2.toList
          · rw [if_pos c3, if_pos c3]; exact hx
          · rw [if_neg c3, if_neg c3]
        · rw [if_neg c4, if_neg c4]
    · rw [if_neg c, if_neg c]; exact hx
theorem spec_Meets_ev (l : List S56) (hl : l.length ≤ 1000000000000) (x : List S41) (hn : x.length ≤ 1000000000000) : Ev (fun k => spec_Meets.f k l x) (meetsM l x x.length 0) :=
  spec_Meets_loop l hl x hn _ 0 rfl (by omega)
/-- Bytes with orders appended. -/
def pop1 (b : List Int) (o : S41) : List Int := putTextM (putTextM (putNumM b o.f0) o.f1) o.f2
def popsM (b : List Int) (l : List S41) : List Int := l.foldl pop1 b
def putOpsM (l : List S41) : List Int := if ookM l l.length 0 = true then popsM (putNumM [] l.length) l else []
theorem pop1_len (b : List Int) (o : S41) : (pop1 b o).length ≤ b.length + 15 + o.f1.size + o.f2.size := by
  have h1 := putNumM_len b o.f0
  have h2 := putTextM_len (putNumM b o.f0) o.f1
  have h3 := putTextM_len (putTextM (putNumM b o.f0) o.f1) o.f2
  unfold pop1
  omega
theorem popsM_len (l : List S41) (hs : ∀ o ∈ l, (o.f1.size : Int) + o.f2.size ≤ 1048576) : ∀ b : List Int, (popsM b l).length ≤ b.length + 2000000 * l.length := by
  induction l with
  | nil => intro b; simp [popsM]
  | cons o l ih =>
    intro b
    have h1 := ih (fun q hq => hs q (List.mem_cons_of_mem _ hq)) (pop1 b o)
    have h2 := pop1_len b o
    have h3 := hs o List.mem_cons_self
    simp only [popsM, List.foldl_cons, List.length_cons] at h1 ⊢
    omega
theorem putOpsM_len (l : List S41) (hs : ∀ o ∈ l, (o.f1.size : Int) + o.f2.size ≤ 1048576) : (putOpsM l).length ≤ 5 + 2000000 * l.length := by
  unfold putOpsM
  split
  · have h1 := popsM_len l hs (putNumM [] l.length)
    have h2 := putNumM_len [] l.length
    simp only [List.length_nil] at h2
    omega
  · simp
theorem spec_PutOps_loop (l : List S41) (hn : l.length ≤ 10000000) (hs : ∀ o ∈ l, (o.f1.size : Int) + o.f2.size ≤ 1048576) : ∀ (d i : Nat) (b : List Int), l.length - i = d → i ≤ l.length → b.length + 2000000 * d ≤ 90000000000000 →
    Ev (fun k => spec_PutOps.l0 k l b (i : Int)) (popsM b (l.drop i)) := by
  intro d
  induction d with
  | zero =>
    intro i b hd hi _
    obtain rfl : i = l.length := by omega
    refine Ev.up (Ev.now _) (fun k _ => ?_)
    simp only [spec_PutOps.l0]
    rw [if_neg (by omega), List.drop_length]
    rfl
  | succ d ih =>
    intro i b hd hi hb
    have hil : i < l.length := by omega
    have hsz := hs l[i] (List.getElem_mem hil)
    have h1 := putNumM_len b l[i].f0
    have h2 := putTextM_len (putNumM b l[i].f0) l[i].f1
    have h3 := pop1_len b l[i]
    obtain ⟨K1, e1⟩ := Ev.get (spec_PutNum_ev b l[i].f0 (by omega))
    obtain ⟨K2, e2⟩ := Ev.get (spec_PutText_ev (putNumM b l[i].f0) l[i].f1 (by omega) (by omega))
    obtain ⟨K3, e3⟩ := Ev.get (spec_PutText_ev (putTextM (putNumM b l[i].f0) l[i].f1) l[i].f2 (by omega) (by omega))
    obtain ⟨K4, e4⟩ := Ev.get (ih (i + 1) (pop1 b l[i]) (by omega) (by omega) (by omega))
    refine ⟨K1 + K2 + K3 + K4 + 1, fun k hk => ?_⟩
    obtain ⟨k, rfl⟩ : ∃ j, k = j + 1 := ⟨k - 1, by omega⟩
    have hx := e4 k (by omega)
    show spec_PutOps.l0 (k + 1) _ _ _ = _
    simp only [spec_PutOps.l0]
    rw [if_pos (by omega), if_pos (by omega), rd_41_nat l i hil, e1 _ (by omega), Option.bind_some, e2 _ (by omega), Option.bind_some, e3 _ (by omega), Option.bind_some, w64 (by omega) (by omega), List.drop_eq_getElem_cons hil]
    exact hx
theorem spec_PutOps_ev (l : List S41) (hn : l.length ≤ 10000000) (hs : ∀ o ∈ l, (o.f1.size : Int) + o.f2.size ≤ 1048576) : Ev (fun k => spec_PutOps.f k l) (putOpsM l) := by
  have h2 := putNumM_len [] l.length
  simp only [List.length_nil] at h2
  obtain ⟨K0, e0⟩ := Ev.get (spec_OpsOk_ev l (by omega) (fun o ho => by have := hs o ho; omega))
  obtain ⟨K1, e1⟩ := Ev.get (spec_PutNum_ev [] l.length (by simp))
  obtain ⟨K2, e2⟩ := Ev.get (spec_PutOps_loop l hn hs _ 0 (putNumM [] l.length) rfl (by omega) (by omega))
  refine ⟨K0 + K1 + K2, fun k hk => ?_⟩
  show spec_PutOps.f k l = _
  unfold spec_PutOps.f putOpsM
  rw [e0 _ (by omega), Option.bind_some]
  by_cases c : ookM l l.length 0 = true
  · rw [if_pos c, if_pos c, e1 _ (by omega), Option.bind_some]
    exact e2 _ (by omega)
  · rw [if_neg c, if_neg c]
theorem impl_putOps_loop (l : List S41) (hn : l.length ≤ 10000000) (hs : ∀ o ∈ l, (o.f1.size : Int) + o.f2.size ≤ 1048576) : ∀ (d i : Nat) (b : List Int), l.length - i = d → i ≤ l.length → b.length + 2000000 * d ≤ 90000000000000 →
    Ev (fun k => impl_putOps.l0 k b l (l.length : Int) (i : Int)) (popsM b (l.drop i)) := by
  intro d
  induction d with
  | zero =>
    intro i b hd hi _
    obtain rfl : i = l.length := by omega
    refine Ev.up (Ev.now _) (fun k _ => ?_)
    simp only [impl_putOps.l0]
    rw [if_neg (by omega), List.drop_length]
    rfl
  | succ d ih =>
    intro i b hd hi hb
    have hil : i < l.length := by omega
    have hsz := hs l[i] (List.getElem_mem hil)
    have h1 := putNumM_len b l[i].f0
    have h2 := putTextM_len (putNumM b l[i].f0) l[i].f1
    have h3 := pop1_len b l[i]
    obtain ⟨K1, e1⟩ := Ev.get (impl_putNum_ev b l[i].f0 (by omega))
    obtain ⟨K2, e2⟩ := Ev.get (impl_putText_ev (putNumM b l[i].f0) l[i].f1 (by omega) (by omega))
    obtain ⟨K3, e3⟩ := Ev.get (impl_putText_ev (putTextM (putNumM b l[i].f0) l[i].f1) l[i].f2 (by omega) (by omega))
    obtain ⟨K4, e4⟩ := Ev.get (ih (i + 1) (pop1 b l[i]) (by omega) (by omega) (by omega))
    refine ⟨K1 + K2 + K3 + K4 + 1, fun k hk => ?_⟩
    obtain ⟨k, rfl⟩ : ∃ j, k = j + 1 := ⟨k - 1, by omega⟩
    have hx := e4 k (by omega)
    show impl_putOps.l0 (k + 1) _ _ _ _ = _
    simp only [impl_putOps.l0]
    rw [if_pos (by omega), if_pos (by omega), if_pos (by omega), rd_41_nat l i hil, e1 _ (by omega), Option.bind_some, e2 _ (by omega), Option.bind_some, e3 _ (by omega), Option.bind_some, w64 (by omega) (by omega), List.drop_eq_getElem_cons hil]
    exact hx
theorem impl_PutOps_ev (l : List S41) (hn : l.length ≤ 10000000) (hs : ∀ o ∈ l, (o.f1.size : Int) + o.f2.size ≤ 1048576) : Ev (fun k => impl_PutOps.f k l) (putOpsM l) := by
  have h2 := putNumM_len [] l.length
  simp only [List.length_nil] at h2
  obtain ⟨K0, e0⟩ := Ev.get (impl_OpsOk_ev l (by omega) (fun o ho => by have := hs o ho; omega))
  obtain ⟨K1, e1⟩ := Ev.get (impl_putNum_ev [] l.length (by simp))
  obtain ⟨K2, e2⟩ := Ev.get (impl_putOps_loop l hn hs _ 0 (putNumM [] l.length) rfl (by omega) (by omega))
  refine ⟨K0 + K1 + K2, fun k hk => ?_⟩
  show impl_PutOps.f k l = _
  unfold impl_PutOps.f impl_putOps.f putOpsM
  rw [e0 _ (by omega), Option.bind_some]
  by_cases c : ookM l l.length 0 = true
  · have hx : impl_putOps.l0 k (putNumM [] (l.length : Int)) l (l.length : Int) 0 = some (popsM (putNumM [] (l.length : Int)) l) := e2 k (by omega)
    rw [if_pos c, if_pos c, e1 _ (by omega), Option.bind_some, hx, Option.bind_some]
  · rw [if_neg c, if_neg c]
end Go.Proofs.Ytifikhcpojdhmaa.P
