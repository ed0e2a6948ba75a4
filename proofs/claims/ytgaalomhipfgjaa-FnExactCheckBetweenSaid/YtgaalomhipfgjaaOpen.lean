/- What is read as data of a type holds a value of the print's kind: the opening of a law's arguments, kind by kind. No condition. -/
import Derived.Test.YtgaalomhipfgjaaPx0
import Derived.Deep.Slices
import Derived.ChangeArms
namespace Go.Proofs.Ytgaalomhipfgjaa.P
open Go.RowKit Go.Deep Go.ChangeShapes Go.WideShapes Go.Proofs.YtgaalomhipfgjaaW.PrintWords
set_option linter.unusedVariables false
set_option linter.unusedSimpArgs false
/-- Whatever reads as data of type t holds a value of kind d that is well. -/
def Opens {α : Type} (P : Program) (t : TypeId) (d : Kd α) (ok : α → Prop) : Prop :=
  ∀ {H : Type} (enc : TypeId × Value → H) (w : World) (base : Nat) (spare : Nat → Bool) (held : Bool) (fuel : Nat) (cs : List Value) (x : DataW H × List MemPlace),
    DataW.trod enc P w base spare held fuel t cs = some x → ∃ y, d.K w y cs ∧ ok y
theorem of_len1 {α : Type} {l : List α} (h : l.length = 1) : ∃ c0, l = [c0] := by
  match l, h with
  | [c0], _ => exact ⟨c0, rfl⟩
theorem of_len2 {α : Type} {l : List α} (h : l.length = 2) : ∃ c0 c1, l = [c0, c1] := by
  match l, h with
  | [c0, c1], _ => exact ⟨c0, c1, rfl⟩
theorem of_len3 {α : Type} {l : List α} (h : l.length = 3) : ∃ c0 c1 c2, l = [c0, c1, c2] := by
  match l, h with
  | [c0, c1, c2], _ => exact ⟨c0, c1, c2, rfl⟩
theorem of_len4 {α : Type} {l : List α} (h : l.length = 4) : ∃ c0 c1 c2 c3, l = [c0, c1, c2, c3] := by
  match l, h with
  | [c0, c1, c2, c3], _ => exact ⟨c0, c1, c2, c3, rfl⟩
theorem of_len5 {α : Type} {l : List α} (h : l.length = 5) : ∃ c0 c1 c2 c3 c4, l = [c0, c1, c2, c3, c4] := by
  match l, h with
  | [c0, c1, c2, c3, c4], _ => exact ⟨c0, c1, c2, c3, c4, rfl⟩
theorem of_len6 {α : Type} {l : List α} (h : l.length = 6) : ∃ c0 c1 c2 c3 c4 c5, l = [c0, c1, c2, c3, c4, c5] := by
  match l, h with
  | [c0, c1, c2, c3, c4, c5], _ => exact ⟨c0, c1, c2, c3, c4, c5, rfl⟩
theorem opens_int {P : Program} {t : TypeId} {k : IntKind} (ht : P.underlying t = some (.int k)) : Opens P t (Kd.int k) (fun n => (Lit.int k n).wf = true) := by
  intro H enc w base spare held fuel cs x h
  obtain ⟨n, rfl, _, hw⟩ := DataW.trod_int ht h
  exact ⟨n, rfl, hw⟩
theorem opens_bool {P : Program} {t : TypeId} (ht : P.underlying t = some .bool) : Opens P t Kd.bool (fun _ => True) := by
  intro H enc w base spare held fuel cs x h
  obtain ⟨b, rfl, _⟩ := DataW.trod_bool ht h
  exact ⟨b, rfl, trivial⟩
theorem opens_string {P : Program} {t : TypeId} (ht : P.underlying t = some .string) : Opens P t Kd.string (fun s => s.size ≤ 9223372036854775807) := by
  intro H enc w base spare held fuel cs x h
  obtain ⟨s, rfl, _, hs⟩ := DataW.trod_string ht h
  exact ⟨s, rfl, hs⟩
theorem opens_slice {α : Type} {P : Program} {t e : TypeId} {d : Kd α} {ok : α → Prop} (z : α) (ht : P.underlying t = some (.slice e)) (hc : P.cellsOf e = d.sz) (he : Opens P e d ok) :
    Opens P t (Kd.slice e d) (fun l => l.length ≤ 9223372036854775807 ∧ ∀ x ∈ l, ok x) := by
  intro H enc w base spare held fuel cs x h
  rcases open_slice ht h with ⟨rfl, _⟩ | ⟨a, len, cap, m, n, D, Pl, rfl, hb, hl, hm, hmm, _, hx⟩
  · exact ⟨[], ⟨none, 0, rfl, Nat.le_refl _, rfl, by simp, fun hp => absurd hp (by simp)⟩, by simp, by simp⟩
  · have hle : len ≤ m := by rw [hmm]; split <;> omega
    have hmax : cap ≤ 9223372036854775807 := hm
    have key : ∀ i, i < len → ∃ y : α, (∃ c, c.length = d.sz ∧ d.K w y c ∧ ∀ j u, c[j]? = some u → w.cell? (a.add (i * d.sz + j)) = some u) ∧ ok y := by
      intro i hi
      obtain ⟨cs', h1, h2⟩ := hx i (by omega)
      obtain ⟨y, hk, hy⟩ := he enc w base spare held n cs' _ h2
      obtain ⟨_, hcl, hcc⟩ := World.cells?_some h1
      refine ⟨y, ⟨cs', by rw [hcl, hc], hk, fun j u hu => ?_⟩, hy⟩
      have hj : j < cs'.length := (List.getElem?_eq_some_iff.1 hu).1
      have := hcc j (by omega)
      rw [Go.Deep.add_add, hc] at this
      rw [this, hu]
    haveI : Inhabited α := ⟨z⟩
    obtain ⟨f, hf⟩ := choose_lt key
    have hlen : ((List.range len).map f).length = len := by simp
    refine ⟨(List.range len).map f, ⟨some a, cap, by rw [hlen], by rw [hlen]; exact hl, rfl, by omega, fun hp => ⟨a, rfl, fun j p hj => ?_⟩⟩, by rw [hlen]; omega, ?_⟩
    · have hjl : j < len := by have := (List.getElem?_eq_some_iff.1 hj).1; rw [hlen] at this; exact this
      have hp' : p = f j := by simp [hjl] at hj; exact hj.symm
      rw [hp']
      exact (hf j hjl).1
    · intro x hx
      obtain ⟨i, hi, rfl⟩ := List.mem_map.1 hx
      exact (hf i (List.mem_range.1 hi)).2
def ok66 (x : S66) : Prop := x.f0.size ≤ 9223372036854775807 ∧ x.f1.size ≤ 9223372036854775807
theorem opens_66 : Opens Try.prog 66 k66 ok66 := by
  intro H enc w base spare held fuel cs x h
  obtain ⟨xs, n, rfl, _, hl, hxl, hf⟩ := DataW.trod_struct Try.underlying66 h
  have e0 : Try.prog.cellsOf 66 = 2 := by kernel_rfl
  rw [e0] at hl
  have hx2 : xs.length = 2 := hxl
  obtain ⟨c0, c1, rfl⟩ := of_len2 hl
  obtain ⟨x0, x1, rfl⟩ := of_len2 hx2
  have z0 : Try.prog.cellsOf 9 = 1 := by kernel_rfl
  have f0 : DataW.trod enc Try.prog w base spare held n 9 [c0] = some x0 := by
    have h_ : DataW.trod enc Try.prog w base spare held n 9 (([c0, c1].drop 0).take (Try.prog.cellsOf 9)) = some x0 := hf 0 _ rfl
    rw [z0] at h_
    exact h_
  obtain ⟨y0, h0, g0⟩ := (opens_string Try.underlying9) enc w base spare held n [c0] _ f0
  have z1 : Try.prog.cellsOf 9 = 1 := by kernel_rfl
  have f1 : DataW.trod enc Try.prog w base spare held n 9 [c1] = some x1 := by
    have h_ : DataW.trod enc Try.prog w base spare held n 9 (([c0, c1].drop 1).take (Try.prog.cellsOf 9)) = some x1 := hf 1 _ rfl
    rw [z1] at h_
    exact h_
  obtain ⟨y1, h1, g1⟩ := (opens_string Try.underlying9) enc w base spare held n [c1] _ f1
  exact ⟨⟨y0, y1⟩, ⟨[c0], [c1], rfl, h0, h1⟩, ⟨g0, g1⟩⟩
def ok131 (x : S131) : Prop := ok66 x.f0 ∧ (x.f1.length ≤ 9223372036854775807 ∧ ∀ y ∈ x.f1, y.size ≤ 9223372036854775807)
theorem opens_131 : Opens Try.prog 131 k131 ok131 := by
  intro H enc w base spare held fuel cs x h
  obtain ⟨xs, n, rfl, _, hl, hxl, hf⟩ := DataW.trod_struct Try.underlying131 h
  have e0 : Try.prog.cellsOf 131 = 3 := by kernel_rfl
  rw [e0] at hl
  have hx2 : xs.length = 2 := hxl
  obtain ⟨c0, c1, c2, rfl⟩ := of_len3 hl
  obtain ⟨x0, x1, rfl⟩ := of_len2 hx2
  have z0 : Try.prog.cellsOf 66 = 2 := by kernel_rfl
  have f0 : DataW.trod enc Try.prog w base spare held n 66 [c0, c1] = some x0 := by
    have h_ : DataW.trod enc Try.prog w base spare held n 66 (([c0, c1, c2].drop 0).take (Try.prog.cellsOf 66)) = some x0 := hf 0 _ rfl
    rw [z0] at h_
    exact h_
  obtain ⟨y0, h0, g0⟩ := opens_66 enc w base spare held n [c0, c1] _ f0
  have z1 : Try.prog.cellsOf 27 = 1 := by kernel_rfl
  have f1 : DataW.trod enc Try.prog w base spare held n 27 [c2] = some x1 := by
    have h_ : DataW.trod enc Try.prog w base spare held n 27 (([c0, c1, c2].drop 2).take (Try.prog.cellsOf 27)) = some x1 := hf 1 _ rfl
    rw [z1] at h_
    exact h_
  obtain ⟨y1, h1, g1⟩ := (opens_slice (e := 9) (⟨#[]⟩ : ByteArray) Try.underlying27 (by kernel_rfl) (opens_string Try.underlying9)) enc w base spare held n [c2] _ f1
  exact ⟨⟨y0, y1⟩, ⟨[c0, c1], [c2], rfl, h0, h1⟩, ⟨g0, g1⟩⟩
def ok38 (x : S38) : Prop := (Lit.int .i64 x.f0).wf = true ∧ (Lit.int .i64 x.f1).wf = true ∧ (x.f2.length ≤ 9223372036854775807 ∧ ∀ y ∈ x.f2, ok131 y)
theorem opens_38 : Opens Try.prog 38 k38 ok38 := by
  intro H enc w base spare held fuel cs x h
  obtain ⟨xs, n, rfl, _, hl, hxl, hf⟩ := DataW.trod_struct Try.underlying38 h
  have e0 : Try.prog.cellsOf 38 = 3 := by kernel_rfl
  rw [e0] at hl
  have hx2 : xs.length = 3 := hxl
  obtain ⟨c0, c1, c2, rfl⟩ := of_len3 hl
  obtain ⟨x0, x1, x2, rfl⟩ := of_len3 hx2
  have z0 : Try.prog.cellsOf 3 = 1 := by kernel_rfl
  have f0 : DataW.trod enc Try.prog w base spare held n 3 [c0] = some x0 := by
    have h_ : DataW.trod enc Try.prog w base spare held n 3 (([c0, c1, c2].drop 0).take (Try.prog.cellsOf 3)) = some x0 := hf 0 _ rfl
    rw [z0] at h_
    exact h_
  obtain ⟨y0, h0, g0⟩ := (opens_int Try.underlying3) enc w base spare held n [c0] _ f0
  have z1 : Try.prog.cellsOf 3 = 1 := by kernel_rfl
  have f1 : DataW.trod enc Try.prog w base spare held n 3 [c1] = some x1 := by
    have h_ : DataW.trod enc Try.prog w base spare held n 3 (([c0, c1, c2].drop 1).take (Try.prog.cellsOf 3)) = some x1 := hf 1 _ rfl
    rw [z1] at h_
    exact h_
  obtain ⟨y1, h1, g1⟩ := (opens_int Try.underlying3) enc w base spare held n [c1] _ f1
  have z2 : Try.prog.cellsOf 36 = 1 := by kernel_rfl
  have f2 : DataW.trod enc Try.prog w base spare held n 36 [c2] = some x2 := by
    have h_ : DataW.trod enc Try.prog w base spare held n 36 (([c0, c1, c2].drop 2).take (Try.prog.cellsOf 36)) = some x2 := hf 2 _ rfl
    rw [z2] at h_
    exact h_
  obtain ⟨y2, h2, g2⟩ := (opens_slice (e := 131) z131 Try.underlying36 (by kernel_rfl) opens_131) enc w base spare held n [c2] _ f2
  exact ⟨⟨y0, y1, y2⟩, ⟨[c0], [c1, c2], rfl, h0, ⟨[c1], [c2], rfl, h1, h2⟩⟩, ⟨g0, ⟨g1, g2⟩⟩⟩
end Go.Proofs.Ytgaalomhipfgjaa.P
