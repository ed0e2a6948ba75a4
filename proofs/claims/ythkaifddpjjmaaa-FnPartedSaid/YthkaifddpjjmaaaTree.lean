/- The tree of digests over pairs: the program's and the reference's answer what the model answers. No condition but bounds on lengths. -/
import Derived.Test.YthkaifddpjjmaaaDig
import Derived.Test.YthkaifddpjjmaaaPx0
import Derived.Test.YthkaifddpjjmaaaPx10
import Derived.Test.YthkaifddpjjmaaaPx11
import Derived.Test.YthkaifddpjjmaaaPx13
import Derived.Test.YthkaifddpjjmaaaPx15
import Derived.Test.YthkaifddpjjmaaaPx2
import Derived.Test.YthkaifddpjjmaaaPx5
import Derived.Test.YthkaifddpjjmaaaPx6
import Derived.Test.YthkaifddpjjmaaaPx8
namespace Go.Proofs.Ythkaifddpjjmaaa.P
open Go.RowKit Go.Proofs.YthkaifddpjjmaaaW.PrintWords Go.Proofs.YthkaifddpjjmaaaW.PrintLast Go.Proofs.YthkaifddpjjmaaaW.PrintMore
set_option linter.unusedVariables false
set_option linter.unusedSimpArgs false
theorem strOfNums_size (l : List Int) : (strOfNums l).size = l.length := by
  unfold strOfNums
  simp [ByteArray.size]
theorem digM_size (l : List Int) : (digM l).size = 32 := by
  unfold digM
  rw [strOfNums_size, digB_length]
def nodeB (a b : ByteArray) : List Int := [1] ++ bytesOf a ++ bytesOf b
def nodeM (a b : ByteArray) : ByteArray := digM (nodeB a b)
def leafB (a b : ByteArray) : List Int := putTextM (putTextM [0] a) b
def leafM (a b : ByteArray) : ByteArray := digM (leafB a b)
def topB (n : Int) (s : ByteArray) : List Int := putNumM [2] n ++ bytesOf s
theorem nodeB_by (a b : ByteArray) : By (nodeB a b) := By.app (By.app (By.one (by omega) (by omega)) (By.bytesOf _)) (By.bytesOf _)
theorem nodeB_length (a b : ByteArray) : (nodeB a b).length = a.size + b.size + 1 := by
  have h : (nodeB a b).length = 1 + (bytesOf a).length + (bytesOf b).length := by
    unfold nodeB
    rw [List.length_append, List.length_append]
    rfl
  rw [h, bytesOf_length, bytesOf_length]
  omega
theorem leafB_by (a b : ByteArray) : By (leafB a b) := putTextM_by (putTextM_by (By.one (by omega) (by omega)) _) _
theorem leafB_len (a b : ByteArray) : (leafB a b).length ≤ a.size + b.size + 11 := by
  have h1 := putTextM_len [0] a
  have h2 := putTextM_len (putTextM [0] a) b
  unfold leafB
  simp at h1
  omega
theorem topB_by (n : Int) (s : ByteArray) : By (topB n s) := By.app (putNumM_by (By.one (by omega) (by omega)) _) (By.bytesOf _)
theorem topB_len (n : Int) (s : ByteArray) : (topB n s).length ≤ s.size + 6 := by
  have h1 := putNumM_len [2] n
  unfold topB
  rw [List.length_append, bytesOf_length]
  simp at h1
  omega
theorem nodeM_size (a b : ByteArray) : (nodeM a b).size = 32 := digM_size _
theorem leafM_size (a b : ByteArray) : (leafM a b).size = 32 := digM_size _
theorem spec_l4Node_eq (a b : ByteArray) (ha : a.size ≤ 1000000000000) (hb : b.size ≤ 1000000000000) : spec_l4Node.f a b = some (nodeB a b) := by
  unfold spec_l4Node.f
  rw [Option.bind_some, if_pos (by simp; omega), Option.bind_some, if_pos (by simp [bytesOf_length]; omega)]
  rfl
theorem spec_NodeOf_ev (a b : ByteArray) (ha : a.size ≤ 1000000000000) (hb : b.size ≤ 1000000000000) : Ev (fun k => spec_NodeOf.f k a b) (nodeM a b) := by
  obtain ⟨K1, e1⟩ := Ev.get (spec_Digest_ev (nodeB a b) (nodeB_by a b) (by rw [nodeB_length]; omega))
  refine ⟨K1, fun k hk => ?_⟩
  show spec_NodeOf.f k a b = _
  unfold spec_NodeOf.f
  rw [spec_l4Node_eq a b ha hb, Option.bind_some, e1 _ hk, Option.bind_some]
  rfl
theorem impl_nodeBytes_eq (a b : ByteArray) (ha : a.size ≤ 1000000000000) (hb : b.size ≤ 1000000000000) : impl_nodeBytes.f a b = some (nodeB a b) := by
  unfold impl_nodeBytes.f
  rw [Option.bind_some, if_pos (by simp; omega), Option.bind_some, if_pos (by simp [bytesOf_length]; omega)]
  rfl
theorem impl_NodeOf_ev (a b : ByteArray) (ha : a.size ≤ 1000000000000) (hb : b.size ≤ 1000000000000) : Ev (fun k => impl_NodeOf.f k a b) (nodeM a b) := by
  obtain ⟨K1, e1⟩ := Ev.get (impl_Digest_ev (nodeB a b) (by rw [nodeB_length]; omega))
  refine ⟨K1, fun k hk => ?_⟩
  show impl_NodeOf.f k a b = _
  unfold impl_NodeOf.f
  rw [impl_nodeBytes_eq a b ha hb, Option.bind_some, e1 _ hk, Option.bind_some]
  rfl
theorem spec_l4Leaf_ev (a b : ByteArray) (ha : a.size ≤ 1000000000000) (hb : b.size ≤ 1000000000000) : Ev (fun k => spec_l4Leaf.f k a b) (leafB a b) := by
  have h1 := putTextM_len [0] a
  simp at h1
  obtain ⟨K1, e1⟩ := Ev.get (spec_PutText_ev [0] a (by simp) (by omega))
  obtain ⟨K2, e2⟩ := Ev.get (spec_PutText_ev (putTextM [0] a) b (by omega) (by omega))
  refine ⟨K1 + K2, fun k hk => ?_⟩
  show spec_l4Leaf.f k a b = _
  unfold spec_l4Leaf.f
  rw [e1 _ (by omega), Option.bind_some, e2 _ (by omega), Option.bind_some]
  rfl
theorem spec_LeafOf_ev (a b : ByteArray) (ha : a.size ≤ 1000000000000) (hb : b.size ≤ 1000000000000) : Ev (fun k => spec_LeafOf.f k a b) (leafM a b) := by
  have hl := leafB_len a b
  obtain ⟨K1, e1⟩ := Ev.get (spec_l4Leaf_ev a b ha hb)
  obtain ⟨K2, e2⟩ := Ev.get (spec_Digest_ev (leafB a b) (leafB_by a b) (by omega))
  refine ⟨K1 + K2, fun k hk => ?_⟩
  show spec_LeafOf.f k a b = _
  unfold spec_LeafOf.f
  rw [e1 _ (by omega), Option.bind_some, e2 _ (by omega), Option.bind_some]
  rfl
theorem impl_leafBytes_ev (a b : ByteArray) (ha : a.size ≤ 1000000000000) (hb : b.size ≤ 1000000000000) : Ev (fun k => impl_leafBytes.f k a b) (leafB a b) := by
  have h1 := putTextM_len [0] a
  simp at h1
  obtain ⟨K1, e1⟩ := Ev.get (impl_putText_ev [0] a (by simp) (by omega))
  obtain ⟨K2, e2⟩ := Ev.get (impl_putText_ev (putTextM [0] a) b (by omega) (by omega))
  refine ⟨K1 + K2, fun k hk => ?_⟩
  show impl_leafBytes.f k a b = _
  unfold impl_leafBytes.f
  rw [e1 _ (by omega), Option.bind_some, e2 _ (by omega), Option.bind_some]
  rfl
theorem impl_LeafOf_ev (a b : ByteArray) (ha : a.size ≤ 1000000000000) (hb : b.size ≤ 1000000000000) : Ev (fun k => impl_LeafOf.f k a b) (leafM a b) := by
  have hl := leafB_len a b
  obtain ⟨K1, e1⟩ := Ev.get (impl_leafBytes_ev a b ha hb)
  obtain ⟨K2, e2⟩ := Ev.get (impl_Digest_ev (leafB a b) (by omega))
  refine ⟨K1 + K2, fun k hk => ?_⟩
  show impl_LeafOf.f k a b = _
  unfold impl_LeafOf.f
  rw [e1 _ (by omega), Option.bind_some, e2 _ (by omega), Option.bind_some]
  rfl
/-! ### halves -/
/-- The greatest power of 2 times x that is less than n. -/
def halfG (x n : Nat) : Nat := if h : 0 < x ∧ 2 * x < n then halfG (2 * x) n else x
termination_by n - x
def halfM (n : Nat) : Nat := halfG 1 n
theorem halfG_lt : ∀ (d x n : Nat), n - x = d → 0 < x → x < n → halfG x n < n ∧ x ≤ halfG x n := by
  intro d
  induction d using Nat.strongRecOn with
  | _ d ih =>
    intro x n hd hx hn
    rw [halfG]
    by_cases h : 0 < x ∧ 2 * x < n
    · rw [dif_pos h]
      have := ih (n - 2 * x) (by omega) (2 * x) n rfl (by omega) h.2
      omega
    · rw [dif_neg h]
      omega
theorem halfM_lt {n : Nat} (h : 2 ≤ n) : halfM n < n ∧ 1 ≤ halfM n := halfG_lt _ 1 n rfl (by omega) (by omega)
theorem spec_l4Half_l0 : ∀ (d x n : Nat), n - x = d → 0 < x → x ≤ n → n ≤ 1000000000000 → Ev (fun k => spec_l4Half.l0 k (n : Int) (x : Int)) (halfG x n : Int) := by
  intro d
  induction d using Nat.strongRecOn with
  | _ d ih =>
    intro x n hd hx hn hb
    rw [halfG]
    have e : wrap64 (2 * (x : Int)) = ((2 * x : Nat) : Int) := by rw [w64 (by omega) (by omega)]; omega
    by_cases h : 0 < x ∧ 2 * x < n
    · rw [dif_pos h]
      refine Ev.up (ih (n - 2 * x) (by omega) (2 * x) n rfl (by omega) (by omega) hb) (fun k hk => ?_)
      simp only [spec_l4Half.l0]
      rw [e, if_pos (by omega)]
      exact hk
    · rw [dif_neg h]
      refine Ev.up (Ev.now _) (fun k _ => ?_)
      simp only [spec_l4Half.l0]
      rw [e, if_neg (by omega)]
theorem spec_l4Half_ev (n : Nat) (h : 1 ≤ n) (hb : n ≤ 1000000000000) : Ev (fun k => spec_l4Half.f k (n : Int)) (halfM n : Int) :=
  (spec_l4Half_l0 _ 1 n rfl (by omega) h hb).congr (fun k => rfl)
theorem impl_half_l0 : ∀ (d x n : Nat), n - x = d → 0 < x → x ≤ n → n ≤ 1000000000000 → Ev (fun k => impl_half.l0 k (n : Int) (x : Int)) (halfG x n : Int) := by
  intro d
  induction d using Nat.strongRecOn with
  | _ d ih =>
    intro x n hd hx hn hb
    rw [halfG]
    have e : wrap64 (2 * (x : Int)) = ((2 * x : Nat) : Int) := by rw [w64 (by omega) (by omega)]; omega
    have e' : wrap64 ((x : Int) * 2) = ((2 * x : Nat) : Int) := by rw [w64 (by omega) (by omega)]; omega
    by_cases h : 0 < x ∧ 2 * x < n
    · rw [dif_pos h]
      refine Ev.up (ih (n - 2 * x) (by omega) (2 * x) n rfl (by omega) (by omega) hb) (fun k hk => ?_)
      simp only [impl_half.l0]
      rw [e, e', if_pos (by omega)]
      exact hk
    · rw [dif_neg h]
      refine Ev.up (Ev.now _) (fun k _ => ?_)
      simp only [impl_half.l0]
      rw [e, if_neg (by omega)]
theorem impl_half_ev (n : Nat) (h : 1 ≤ n) (hb : n ≤ 1000000000000) : Ev (fun k => impl_half.f k (n : Int)) (halfM n : Int) :=
  (impl_half_l0 _ 1 n rfl (by omega) h hb).congr (fun k => rfl)
/-! ### trees -/
/-- No key and no value is great. -/
def Few (l : List S26) : Prop := ∀ p ∈ l, p.f0.size ≤ 1000000000000 ∧ p.f1.size ≤ 1000000000000
theorem Few.take {l : List S26} (h : Few l) (n : Nat) : Few (l.take n) := fun p hp => h p (List.mem_of_mem_take hp)
theorem Few.drop {l : List S26} (h : Few l) (n : Nat) : Few (l.drop n) := fun p hp => h p (List.mem_of_mem_drop hp)
def innerM (l : List S26) : ByteArray :=
  if h : 2 ≤ l.length then nodeM (innerM (l.take (halfM l.length))) (innerM (l.drop (halfM l.length)))
  else match l with
    | [] => digM []
    | p :: _ => leafM p.f0 p.f1
termination_by l.length
decreasing_by
  · have := halfM_lt h
    rw [List.length_take]
    omega
  · have := halfM_lt h
    rw [List.length_drop]
    omega
theorem innerM_nil : innerM [] = digM [] := by rw [innerM]; rfl
theorem innerM_one (p : S26) : innerM [p] = leafM p.f0 p.f1 := by rw [innerM]; rfl
theorem innerM_two (l : List S26) (h : 2 ≤ l.length) : innerM l = nodeM (innerM (l.take (halfM l.length))) (innerM (l.drop (halfM l.length))) := by
  rw [innerM, dif_pos h]
theorem innerM_size (l : List S26) : (innerM l).size = 32 := by
  by_cases h : 2 ≤ l.length
  · rw [innerM_two l h]
    exact nodeM_size _ _
  · match l, h with
    | [], _ => rw [innerM_nil]; exact digM_size _
    | [p], _ => rw [innerM_one]; exact leafM_size _ _
    | _ :: _ :: _, h => simp at h
def rootM (l : List S26) : ByteArray := digM (topB l.length (innerM l))
def rootOfM (l : List S26) : ByteArray := if l.length > 60 then ⟨#[]⟩ else rootM l
def innerOfM (l : List S26) : ByteArray := if l.length > 60 then ⟨#[]⟩ else innerM l
def pathM (l : List S26) (i : Nat) : List ByteArray :=
  if h : 2 ≤ l.length then
    if i < halfM l.length then pathM (l.take (halfM l.length)) i ++ [innerM (l.drop (halfM l.length))]
    else pathM (l.drop (halfM l.length)) (i - halfM l.length) ++ [innerM (l.take (halfM l.length))]
  else []
termination_by l.length
decreasing_by
  · have := halfM_lt h
    rw [List.length_take]
    omega
  · have := halfM_lt h
    rw [List.length_drop]
    omega
theorem pathM_len : ∀ (n : Nat) (l : List S26) (i : Nat), l.length = n → (pathM l i).length ≤ n := by
  intro n
  induction n using Nat.strongRecOn with
  | _ n ih =>
    intro l i hl
    rw [pathM]
    by_cases h : 2 ≤ l.length
    · have hh := halfM_lt h
      rw [dif_pos h]
      by_cases hi : i < halfM l.length
      · rw [if_pos hi]
        have := ih (l.take (halfM l.length)).length (by rw [List.length_take]; omega) (l.take (halfM l.length)) i rfl
        simp only [List.length_append, List.length_cons, List.length_nil]
        rw [List.length_take] at this
        omega
      · rw [if_neg hi]
        have := ih (l.drop (halfM l.length)).length (by rw [List.length_drop]; omega) (l.drop (halfM l.length)) (i - halfM l.length) rfl
        simp only [List.length_append, List.length_cons, List.length_nil]
        rw [List.length_drop] at this
        omega
    · rw [dif_neg h]
      simp
def pathOfM (l : List S26) (i : Int) : List ByteArray := if l.length > 60 then [] else if 0 ≤ i ∧ i < l.length then pathM l i.toNat else []
theorem pathOfM_len (l : List S26) (i : Int) : (pathOfM l i).length ≤ l.length := by
  unfold pathOfM
  split
  · simp
  · split
    · exact pathM_len _ l _ rfl
    · simp
theorem spec_l4Inner_ev : ∀ (n : Nat) (l : List S26), l.length = n → n ≤ 1000000000000 → Few l → Ev (fun k => spec_l4Inner.f k l) (innerM l) := by
  intro n
  induction n using Nat.strongRecOn with
  | _ n ih =>
    intro l hl hn hf
    by_cases h : 2 ≤ l.length
    · have hh := halfM_lt h
      have l1 : (l.take (halfM l.length)).length = halfM l.length := by rw [List.length_take]; omega
      have l2 : (l.drop (halfM l.length)).length = l.length - halfM l.length := List.length_drop
      obtain ⟨K1, e1⟩ := Ev.get (spec_l4Half_ev l.length (by omega) (by omega))
      obtain ⟨K2, e2⟩ := Ev.get (ih _ (by omega) (l.take (halfM l.length)) l1 (by omega) (hf.take _))
      obtain ⟨K3, e3⟩ := Ev.get (ih _ (by omega) (l.drop (halfM l.length)) l2 (by omega) (hf.drop _))
      obtain ⟨K4, e4⟩ := Ev.get (spec_NodeOf_ev (innerM (l.take (halfM l.length))) (innerM (l.drop (halfM l.length))) (by rw [innerM_size]; omega) (by rw [innerM_size]; omega))
      refine ⟨K1 + K2 + K3 + K4 + 1, fun k hk => ?_⟩
      obtain ⟨k, rfl⟩ : ∃ m, k = m + 1 := ⟨k - 1, by omega⟩
      show spec_l4Inner.f (k + 1) l = _
      simp only [spec_l4Inner.f]
      rw [if_neg (by omega), if_neg (by omega), e1 _ (by omega), Option.bind_some, if_pos (by omega), if_pos (by omega), Int.toNat_natCast, e2 _ (by omega), Option.bind_some, e3 _ (by omega), Option.bind_some, e4 _ (by omega), Option.bind_some, ← innerM_two l h]
    · match l, h, hf with
      | [], _, _ =>
        rw [innerM_nil]
        refine Ev.up (spec_Digest_ev [] By.nil (by simp)) (fun k hk => ?_)
        simp only [spec_l4Inner.f]
        rw [if_pos (by simp), hk, Option.bind_some]
      | [p], _, hf =>
        have := hf p (by simp)
        rw [innerM_one]
        refine Ev.up (spec_LeafOf_ev p.f0 p.f1 this.1 this.2) (fun k hk => ?_)
        simp only [spec_l4Inner.f]
        have hp : rd_T26 [p] 0 = p := rfl
        rw [if_neg (by simp), if_pos (by simp), if_pos (by simp), hp, hk, Option.bind_some]
      | _ :: _ :: _, h, _ => simp at h
theorem impl_innerOf_ev : ∀ (n : Nat) (l : List S26), l.length = n → n ≤ 1000000000000 → Few l → Ev (fun k => impl_innerOf.f k l) (innerM l) := by
  intro n
  induction n using Nat.strongRecOn with
  | _ n ih =>
    intro l hl hn hf
    by_cases h : 2 ≤ l.length
    · have hh := halfM_lt h
      have l1 : (l.take (halfM l.length)).length = halfM l.length := by rw [List.length_take]; omega
      have l2 : (l.drop (halfM l.length)).length = l.length - halfM l.length := List.length_drop
      obtain ⟨K1, e1⟩ := Ev.get (impl_half_ev l.length (by omega) (by omega))
      obtain ⟨K2, e2⟩ := Ev.get (ih _ (by omega) (l.take (halfM l.length)) l1 (by omega) (hf.take _))
      obtain ⟨K3, e3⟩ := Ev.get (ih _ (by omega) (l.drop (halfM l.length)) l2 (by omega) (hf.drop _))
      obtain ⟨K4, e4⟩ := Ev.get (impl_NodeOf_ev (innerM (l.take (halfM l.length))) (innerM (l.drop (halfM l.length))) (by rw [innerM_size]; omega) (by rw [innerM_size]; omega))
      refine ⟨K1 + K2 + K3 + K4 + 1, fun k hk => ?_⟩
      obtain ⟨k, rfl⟩ : ∃ m, k = m + 1 := ⟨k - 1, by omega⟩
      show impl_innerOf.f (k + 1) l = _
      simp only [impl_innerOf.f]
      rw [if_neg (by omega), if_neg (by omega), e1 _ (by omega), Option.bind_some, if_pos (by omega), if_pos (by omega), Int.toNat_natCast, e2 _ (by omega), Option.bind_some, e3 _ (by omega), Option.bind_some, e4 _ (by omega), Option.bind_some, ← innerM_two l h]
    · match l, h, hf with
      | [], _, _ =>
        rw [innerM_nil]
        refine Ev.up (impl_Digest_ev [] (by simp)) (fun k hk => ?_)
        simp only [impl_innerOf.f]
        rw [if_pos (by simp), hk, Option.bind_some]
      | [p], _, hf =>
        have := hf p (by simp)
        rw [innerM_one]
        refine Ev.up (impl_LeafOf_ev p.f0 p.f1 this.1 this.2) (fun k hk => ?_)
        simp only [impl_innerOf.f]
        have hp : rd_T26 [p] 0 = p := rfl
        rw [if_neg (by simp), if_pos (by simp), if_pos (by simp), hp, hk, Option.bind_some]
      | _ :: _ :: _, h, _ => simp at h
theorem spec_l4Top_ev (n : Int) (s : ByteArray) (h : s.size ≤ 1000000000000) : Ev (fun k => spec_l4Top.f k n s) (topB n s) := by
  have hl := putNumM_len [2] n
  simp at hl
  obtain ⟨K1, e1⟩ := Ev.get (spec_PutNum_ev [2] n (by simp))
  refine ⟨K1, fun k hk => ?_⟩
  show spec_l4Top.f k n s = _
  unfold spec_l4Top.f
  rw [e1 _ hk, Option.bind_some, if_pos (by omega)]
  rfl
theorem impl_rootBytes_ev (n : Int) (s : ByteArray) (h : s.size ≤ 1000000000000) : Ev (fun k => impl_rootBytes.f k n s) (topB n s) := by
  have hl := putNumM_len [2] n
  simp at hl
  obtain ⟨K1, e1⟩ := Ev.get (impl_putNum_ev [2] n (by simp))
  refine ⟨K1, fun k hk => ?_⟩
  show impl_rootBytes.f k n s = _
  unfold impl_rootBytes.f
  rw [e1 _ hk, Option.bind_some, if_pos (by omega)]
  rfl
theorem impl_rootOf_ev (l : List S26) (hn : l.length ≤ 1000000000000) (hf : Few l) : Ev (fun k => impl_rootOf.f k l) (rootM l) := by
  have hs := innerM_size l
  have ht := topB_len l.length (innerM l)
  obtain ⟨K1, e1⟩ := Ev.get (impl_innerOf_ev _ l rfl hn hf)
  obtain ⟨K2, e2⟩ := Ev.get (impl_rootBytes_ev l.length (innerM l) (by omega))
  obtain ⟨K3, e3⟩ := Ev.get (impl_Digest_ev (topB l.length (innerM l)) (by omega))
  refine ⟨K1 + K2 + K3, fun k hk => ?_⟩
  show impl_rootOf.f k l = _
  unfold impl_rootOf.f
  rw [e1 _ (by omega), Option.bind_some, e2 _ (by omega), Option.bind_some, e3 _ (by omega), Option.bind_some]
  rfl
theorem impl_RootOf_ev (l : List S26) (hf : Few l) : Ev (fun k => impl_RootOf.f k l) (rootOfM l) := by
  unfold rootOfM
  by_cases h : l.length > 60
  · refine ⟨0, fun k _ => ?_⟩
    show impl_RootOf.f k l = _
    unfold impl_RootOf.f
    rw [if_pos (by omega), if_pos h]
  · obtain ⟨K1, e1⟩ := Ev.get (impl_rootOf_ev l (by omega) hf)
    refine ⟨K1, fun k hk => ?_⟩
    show impl_RootOf.f k l = _
    unfold impl_RootOf.f
    rw [if_neg (by omega), if_neg h, e1 _ hk, Option.bind_some]
theorem spec_l4Path_ev : ∀ (n : Nat) (l : List S26) (i : Nat), l.length = n → n ≤ 1000000 → i < n → Few l → Ev (fun k => spec_l4Path.f k l (i : Int)) (pathM l i) := by
  intro n
  induction n using Nat.strongRecOn with
  | _ n ih =>
    intro l i hl hn hi hf
    rw [pathM]
    by_cases h : 2 ≤ l.length
    · have hh := halfM_lt h
      have l1 : (l.take (halfM l.length)).length = halfM l.length := by rw [List.length_take]; omega
      have l2 : (l.drop (halfM l.length)).length = l.length - halfM l.length := List.length_drop
      obtain ⟨K1, e1⟩ := Ev.get (spec_l4Half_ev l.length (by omega) (by omega))
      rw [dif_pos h]
      by_cases hi2 : i < halfM l.length
      · rw [if_pos hi2]
        have hp := pathM_len _ (l.take (halfM l.length)) i rfl
        obtain ⟨K2, e2⟩ := Ev.get (ih _ (by omega) (l.take (halfM l.length)) i l1 (by omega) hi2 (hf.take _))
        obtain ⟨K3, e3⟩ := Ev.get (spec_l4Inner_ev _ (l.drop (halfM l.length)) rfl (by omega) (hf.drop _))
        refine ⟨K1 + K2 + K3 + 1, fun k hk => ?_⟩
        obtain ⟨k, rfl⟩ : ∃ m, k = m + 1 := ⟨k - 1, by omega⟩
        show spec_l4Path.f (k + 1) l _ = _
        simp only [spec_l4Path.f]
        rw [if_neg (by omega), e1 _ (by omega), Option.bind_some, if_pos (by omega), if_pos (by omega), if_pos (by omega), Int.toNat_natCast, e2 _ (by omega), Option.bind_some, e3 _ (by omega), Option.bind_some, if_pos (by omega)]
      · rw [if_neg hi2]
        have hp := pathM_len _ (l.drop (halfM l.length)) (i - halfM l.length) rfl
        obtain ⟨K2, e2⟩ := Ev.get (ih _ (by omega) (l.drop (halfM l.length)) (i - halfM l.length) l2 (by omega) (by omega) (hf.drop _))
        obtain ⟨K3, e3⟩ := Ev.get (spec_l4Inner_ev _ (l.take (halfM l.length)) rfl (by omega) (hf.take _))
        refine ⟨K1 + K2 + K3 + 1, fun k hk => ?_⟩
        obtain ⟨k, rfl⟩ : ∃ m, k = m + 1 := ⟨k - 1, by omega⟩
        show spec_l4Path.f (k + 1) l _ = _
        simp only [spec_l4Path.f]
        have ew : wrap64 ((i : Int) - (halfM l.length : Int)) = ((i - halfM l.length : Nat) : Int) := by rw [w64 (by omega) (by omega)]; omega
        rw [if_neg (by omega), e1 _ (by omega), Option.bind_some, if_neg (by omega), if_pos (by omega), if_pos (by omega), Int.toNat_natCast, ew, e2 _ (by omega), Option.bind_some, e3 _ (by omega), Option.bind_some, if_pos (by omega)]
    · rw [dif_neg h]
      refine Ev.up (Ev.now _) (fun k _ => ?_)
      simp only [spec_l4Path.f]
      rw [if_pos (by omega)]
theorem impl_pathOf_ev : ∀ (n : Nat) (l : List S26) (i : Nat), l.length = n → n ≤ 1000000 → i < n → Few l → Ev (fun k => impl_pathOf.f k l (i : Int)) (pathM l i) := by
  intro n
  induction n using Nat.strongRecOn with
  | _ n ih =>
    intro l i hl hn hi hf
    rw [pathM]
    by_cases h : 2 ≤ l.length
    · have hh := halfM_lt h
      have l1 : (l.take (halfM l.length)).length = halfM l.length := by rw [List.length_take]; omega
      have l2 : (l.drop (halfM l.length)).length = l.length - halfM l.length := List.length_drop
      obtain ⟨K1, e1⟩ := Ev.get (impl_half_ev l.length (by omega) (by omega))
      rw [dif_pos h]
      by_cases hi2 : i < halfM l.length
      · rw [if_pos hi2]
        have hp := pathM_len _ (l.take (halfM l.length)) i rfl
        obtain ⟨K2, e2⟩ := Ev.get (ih _ (by omega) (l.take (halfM l.length)) i l1 (by omega) hi2 (hf.take _))
        obtain ⟨K3, e3⟩ := Ev.get (impl_innerOf_ev _ (l.drop (halfM l.length)) rfl (by omega) (hf.drop _))
        refine ⟨K1 + K2 + K3 + 1, fun k hk => ?_⟩
        obtain ⟨k, rfl⟩ : ∃ m, k = m + 1 := ⟨k - 1, by omega⟩
        show impl_pathOf.f (k + 1) l _ = _
        simp only [impl_pathOf.f]
        rw [if_neg (by omega), e1 _ (by omega), Option.bind_some, if_pos (by omega), if_pos (by omega), if_pos (by omega), Int.toNat_natCast, e2 _ (by omega), Option.bind_some, e3 _ (by omega), Option.bind_some, if_pos (by omega)]
      · rw [if_neg hi2]
        have hp := pathM_len _ (l.drop (halfM l.length)) (i - halfM l.length) rfl
        obtain ⟨K2, e2⟩ := Ev.get (ih _ (by omega) (l.drop (halfM l.length)) (i - halfM l.length) l2 (by omega) (by omega) (hf.drop _))
        obtain ⟨K3, e3⟩ := Ev.get (impl_innerOf_ev _ (l.take (halfM l.length)) rfl (by omega) (hf.take _))
        refine ⟨K1 + K2 + K3 + 1, fun k hk => ?_⟩
        obtain ⟨k, rfl⟩ : ∃ m, k = m + 1 := ⟨k - 1, by omega⟩
        show impl_pathOf.f (k + 1) l _ = _
        simp only [impl_pathOf.f]
        have ew : wrap64 ((i : Int) - (halfM l.length : Int)) = ((i - halfM l.length : Nat) : Int) := by rw [w64 (by omega) (by omega)]; omega
        rw [if_neg (by omega), e1 _ (by omega), Option.bind_some, if_neg (by omega), if_pos (by omega), if_pos (by omega), Int.toNat_natCast, ew, e2 _ (by omega), Option.bind_some, e3 _ (by omega), Option.bind_some, if_pos (by omega)]
    · rw [dif_neg h]
      refine Ev.up (Ev.now _) (fun k _ => ?_)
      simp only [impl_pathOf.f]
      rw [if_pos (by omega)]
end Go.Proofs.Ythkaifddpjjmaaa.P
