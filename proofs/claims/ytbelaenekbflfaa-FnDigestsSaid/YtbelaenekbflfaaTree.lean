/- The tree of digests over pairs: the program's and the reference's answer what the model answers. No condition but bounds on lengths. -/
import Derived.Test.YtbelaenekbflfaaDig
import Derived.Test.YtbelaenekbflfaaPx0
import Derived.Test.YtbelaenekbflfaaPx13
import Derived.Test.YtbelaenekbflfaaPx8
namespace Go.Proofs.Ytbelaenekbflfaa.P
open Go.RowKit Go.Proofs.YtbelaenekbflfaaW.PrintWords Go.Proofs.YtbelaenekbflfaaW.PrintLast Go.Proofs.YtbelaenekbflfaaW.PrintMore
set_option linter.unusedVariables false
set_option linter.unusedSimpArgs false
theorem strOfNums_size (l : List Int) : (strOfNums l).size = l.length := by
  unfold strOfNums
  simp [ByteArray.size]
theorem digM_size (l : List Int) : (digM l).size = 32 := by
  unfold digM
  rw [strOfNums_size, digB_length]
def nodeB (a b : ByteArray) : List Int := [1] ++ bytesOf a ++ bytesOf b
def nodeM (a b : ByteArray) : ByteArray := digM (nodeB a b)
def leafB (a b : ByteArray) : List Int := putTextM (putTextM [0] a) b
def leafM (a b : ByteArray) : ByteArray := digM (leafB a b)
def topB (n : Int) (s : ByteArray) : List Int := putNumM [2] n ++ bytesOf s
theorem nodeB_by (a b : ByteArray) : By (nodeB a b) := By.app (By.app (By.one (by omega) (by omega)) (By.bytesOf _)) (By.bytesOf _)
theorem nodeB_length (a b : ByteArray) : (nodeB a b).length = a.size + b.size + 1 := by
  have h : (nodeB a b).length = 1 + (bytesOf a).length + (bytesOf b).length := by
    unfold nodeB
    rw [List.length_append, List.length_append]
    rfl
  rw [h, bytesOf_length, bytesOf_length]
  omega
theorem leafB_by (a b : ByteArray) : By (leafB a b) := putTextM_by (putTextM_by (By.one (by omega) (by omega)) _) _
theorem leafB_len (a b : ByteArray) : (leafB a b).length ≤ a.size + b.size + 11 := by
  have h1 := putTextM_len [0] a
  have h2 := putTextM_len (putTextM [0] a) b
  unfold leafB
  simp at h1
  omega
theorem topB_by (n : Int) (s : ByteArray) : By (topB n s) := By.app (putNumM_by (By.one (by omega) (by omega)) _) (By.bytesOf _)
theorem topB_len (n : Int) (s : ByteArray) : (topB n s).length ≤ s.size + 6 := by
  have h1 := putNumM_len [2] n
  unfold topB
  rw [List.length_append, bytesOf_length]
  simp at h1
  omega
theorem nodeM_size (a b : ByteArray) : (nodeM a b).size = 32 := digM_size _
theorem leafM_size (a b : ByteArray) : (leafM a b).size = 32 := digM_size _
theorem spec_l4Node_eq (a b : ByteArray) (ha : a.size ≤ 1000000000000) (hb : b.size ≤ 1000000000000) : spec_l4Node.f a b = some (nodeB a b) := by
  unfold spec_l4Node.f
  rw [Option.bind_some, if_pos (by simp; omega), Option.bind_some, if_pos (by simp [bytesOf_length]; omega)]
  rfl
theorem spec_NodeOf_ev (a b : ByteArray) (ha : a.size ≤ 1000000000000) (hb : b.size ≤ 1000000000000) : Ev (fun k => spec_NodeOf.f k a b) (nodeM a b) := by
  obtain ⟨K1, e1⟩ := Ev.get (spec_Digest_ev (nodeB a b) (nodeB_by a b) (by rw [nodeB_length]; omega))
  refine ⟨K1, fun k hk => ?_⟩
  show spec_NodeOf.f k a b = _
  unfold spec_NodeOf.f
  rw [spec_l4Node_eq a b ha hb, Option.bind_some, e1 _ hk, Option.bind_some]
  rfl
theorem impl_nodeBytes_eq (a b : ByteArray) (ha : a.size ≤ 1000000000000) (hb : b.size ≤ 1000000000000) : impl_nodeBytes.f a b = some (nodeB a b) := by
  unfold impl_nodeBytes.f
  rw [Option.bind_some, if_pos (by simp; omega), Option.bind_some, if_pos (by simp [bytesOf_length]; omega)]
  rfl
theorem impl_NodeOf_ev (a b : ByteArray) (ha : a.size ≤ 1000000000000) (hb : b.size ≤ 1000000000000) : Ev (fun k => impl_NodeOf.f k a b) (nodeM a b) := by
  obtain ⟨K1, e1⟩ := Ev.get (impl_Digest_ev (nodeB a b) (by rw [nodeB_length]; omega))
  refine ⟨K1, fun k hk => ?_⟩
  show impl_NodeOf.f k a b = _
  unfold impl_NodeOf.f
  rw [impl_nodeBytes_eq a b ha hb, Option.bind_some, e1 _ hk, Option.bind_some]
  rfl
/-! ### halves -/
/-- The greatest power of 2 times x that is less than n. -/
def halfG (x n : Nat) : Nat := if h : 0 < x ∧ 2 * x < n then halfG (2 * x) n else x
termination_by n - x
def halfM (n : Nat) : Nat := halfG 1 n
theorem halfG_lt : ∀ (d x n : Nat), n - x = d → 0 < x → x < n → halfG x n < n ∧ x ≤ halfG x n := by
  intro d
  induction d using Nat.strongRecOn with
  | _ d ih =>
    intro x n hd hx hn
    rw [halfG]
    by_cases h : 0 < x ∧ 2 * x < n
    · rw [dif_pos h]
      have := ih (n - 2 * x) (by omega) (2 * x) n rfl (by omega) h.2
      omega
    · rw [dif_neg h]
      omega
theorem halfM_lt {n : Nat} (h : 2 ≤ n) : halfM n < n ∧ 1 ≤ halfM n := halfG_lt _ 1 n rfl (by omega) (by omega)
/-! ### trees -/
/-- No key and no value is great. -/
def Few (l : List S39) : Prop := ∀ p ∈ l, p.f0.size ≤ 1000000000000 ∧ p.f1.size ≤ 1000000000000
theorem Few.take {l : List S39} (h : Few l) (n : Nat) : Few (l.take n) := fun p hp => h p (List.mem_of_mem_take hp)
theorem Few.drop {l : List S39} (h : Few l) (n : Nat) : Few (l.drop n) := fun p hp => h p (List.mem_of_mem_drop hp)
def innerM (l : List S39) : ByteArray :=
  if h : 2 ≤ l.length then nodeM (innerM (l.take (halfM l.length))) (innerM (l.drop (halfM l.length)))
  else match l with
    | [] => digM []
    | p :: _ => leafM p.f0 p.f1
termination_by l.length
decreasing_by
  · have := halfM_lt h
    rw [List.length_take]
    omega
  · have := halfM_lt h
    rw [List.length_drop]
    omega
theorem innerM_nil : innerM [] = digM [] := by rw [innerM]; rfl
theorem innerM_one (p : S39) : innerM [p] = leafM p.f0 p.f1 := by rw [innerM]; rfl
theorem innerM_two (l : List S39) (h : 2 ≤ l.length) : innerM l = nodeM (innerM (l.take (halfM l.length))) (innerM (l.drop (halfM l.length))) := by
  rw [innerM, dif_pos h]
theorem innerM_size (l : List S39) : (innerM l).size = 32 := by
  by_cases h : 2 ≤ l.length
  · rw [innerM_two l h]
    exact nodeM_size _ _
  · match l, h with
    | [], _ => rw [innerM_nil]; exact digM_size _
    | [p], _ => rw [innerM_one]; exact leafM_size _ _
    | _ :: _ :: _, h => simp at h
def rootM (l : List S39) : ByteArray := digM (topB l.length (innerM l))
def rootOfM (l : List S39) : ByteArray := if l.length > 60 then ⟨#[]⟩ else rootM l
def innerOfM (l : List S39) : ByteArray := if l.length > 60 then ⟨#[]⟩ else innerM l
def pathM (l : List S39) (i : Nat) : List ByteArray :=
  if h : 2 ≤ l.length then
    if i < halfM l.length then pathM (l.take (halfM l.length)) i ++ [innerM (l.drop (halfM l.length))]
    else pathM (l.drop (halfM l.length)) (i - halfM l.length) ++ [innerM (l.take (halfM l.length))]
  else []
termination_by l.length
decreasing_by
  · have := halfM_lt h
    rw [List.length_take]
    omega
  · have := halfM_lt h
    rw [List.length_drop]
    omega
theorem pathM_len : ∀ (n : Nat) (l : List S39) (i : Nat), l.length = n → (pathM l i).length ≤ n := by
  intro n
  induction n using Nat.strongRecOn with
  | _ n ih =>
    intro l i hl
    rw [pathM]
    by_cases h : 2 ≤ l.length
    · have hh := halfM_lt h
      rw [dif_pos h]
      by_cases hi : i < halfM l.length
      · rw [if_pos hi]
        have := ih (l.take (halfM l.length)).length (by rw [List.length_take]; omega) (l.take (halfM l.length)) i rfl
        simp only [List.length_append, List.length_cons, List.length_nil]
        rw [List.length_take] at this
        omega
      · rw [if_neg hi]
        have := ih (l.drop (halfM l.length)).length (by rw [List.length_drop]; omega) (l.drop (halfM l.length)) (i - halfM l.length) rfl
        simp only [List.length_append, List.length_cons, List.length_nil]
        rw [List.length_drop] at this
        omega
    · rw [dif_neg h]
      simp
def pathOfM (l : List S39) (i : Int) : List ByteArray := if l.length > 60 then [] else if 0 ≤ i ∧ i < l.length then pathM l i.toNat else []
theorem pathOfM_len (l : List S39) (i : Int) : (pathOfM l i).length ≤ l.length := by
  unfold pathOfM
  split
  · simp
  · split
    · exact pathM_len _ l _ rfl
    · simp
end Go.Proofs.Ytbelaenekbflfaa.P
