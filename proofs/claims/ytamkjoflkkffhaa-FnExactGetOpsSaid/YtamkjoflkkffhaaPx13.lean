-- Written by wip/xp/xp.py over the kit's print; Lean checks it.
import Derived.Test.YtamkjoflkkffhaaPx0
import Derived.Test.YtamkjoflkkffhaaPx8
import Derived.Test.YtamkjoflkkffhaaPx9
import Derived.Test.YtamkjoflkkffhaaPx11
import Derived.Test.YtamkjoflkkffhaaPx12
namespace Go.Proofs.Ytamkjoflkkffhaa.P
open Go.RowKit Go.Proofs.YtamkjoflkkffhaaW.PrintWords Go.Proofs.YtamkjoflkkffhaaW.PrintLast Go.Proofs.YtamkjoflkkffhaaW.PrintMore
attribute [local go_sem] max2_int min2_int max_two min_two max_three min_three max_four min_four   -- for this text's walks alone
set_option linter.unusedVariables false
set_option linter.unusedSimpArgs false

/-! ### impl_GetOps: function 35 -/
-- by hand
def go_cs (p : S84) : List Value := [.int .i64 p.f0, .string p.f1, .string p.f2]
theorem go_flat : Kd.Flat k84 go_cs := ⟨fun w base ok x c => ⟨fun h => k84_openM h, fun h => by rw [h]; exact k84_mkM w base ok x⟩⟩
/-- The reader of parts: its cells. -/
def go_st (A0 : Option Addr) (n c0 : Nat) (at_ : Int) (bad : Bool) : Array Value := #[.slice A0 n c0, .int .i64 at_, .bool bad]
def go_num (k : Nat) (l : List Int) (at_ : Int) (bad : Bool) : Option (Int × Int × Bool) := (impl_GetNum.f k l at_).bind fun t => if (bad || !t.2.2) = true then some (0, at_, true) else some (t.1, t.2.1, bad)
def go_text (k : Nat) (l : List Int) (at_ : Int) (bad : Bool) : Option (ByteArray × Int × Bool) := (impl_GetText.f k l at_).bind fun t => if (bad || !t.2.2) = true then some (⟨#[]⟩, at_, true) else some (t.1, t.2.1, bad)
def go_ops (k : Nat) (l : List Int) : Nat → Int → Bool → List S84 → Option (List S84 × Int × Bool)
  | 0, at_, bad, acc => some (acc, at_, bad)
  | d + 1, at_, bad, acc => (go_num k l at_ bad).bind fun a => (go_text k l a.2.1 a.2.2).bind fun b => (go_text k l b.2.1 b.2.2).bind fun c => if acc.length < 1000 then go_ops k l d c.2.1 c.2.2 (acc ++ [⟨a.1, b.1, c.1⟩]) else none
theorem go_step {w w1 : World} {g : Nat} {cs : Array Value} {t : TypeId} {fr : Nat × Nat} (h : w.heap[g]? = some (.cells cs t fr)) (hb : Below w.heap.size w w1) : w1.heap[g]? = some (.cells cs t fr) := (hb.block g (Array.getElem?_eq_some_iff.1 h).1).trans h
set_option maxHeartbeats 8000000 in
set_option maxRecDepth 100000 in
theorem go_num_calls (k g : Nat) (A0 : Option Addr) (c0 : Nat) (l0 : List Int) (at_ : Int) (bad : Bool) (n nx : Int) (b2 : Bool) (w : World) (hb : w.heap[g]? = some (.cells (go_st A0 l0.length c0 at_ bad) 87 (0, 0))) (hC : Kd.C (Kd.int .u8) w A0 l0.length l0) (hc : l0.length ≤ c0) (h : go_num k l0 at_ bad = some (n, nx, b2)) :
    Calls Try.prog 86 #[.pointer (some ⟨g, 0, none⟩)] w fun e w' => e = .returned (.int .i64 n) ∧ w'.heap[g]? = some (.cells (go_st A0 l0.length c0 nx b2) 87 (0, 0)) ∧ w.grownBy w' (some g) := by
  unfold go_num at h
  obtain ⟨⟨m, mx_, ok⟩, hg, h⟩ := Option.bind_eq_some_iff.mp h
  have mixed : Try.prog.follows Departure.mixedOrders = true := by kernel_rfl
  have z0 : w.cell? ⟨g, 0, none⟩ = some (.slice A0 l0.length c0) := (blk_cell hb 0).trans rfl
  have z1 : w.cell? ⟨g, 1, none⟩ = some (.int .i64 at_) := (blk_cell hb 1).trans rfl
  have hgn : ∀ n, Calls Try.prog 56 #[.slice A0 l0.length c0, .int .i64 at_] (w.drewN n) fun e w' => e = .returned (.tuple #[.int .i64 m, .int .i64 mx_, .bool ok]) ∧ ∃ q, w' = w.drewN q := fun n =>
    (impl_GetNum.calls k A0 c0 l0 at_ m mx_ ok (w.drewN n) (Kd.C_drewN hC n) hc hg).mono fun e w' ⟨he, hd⟩ => ⟨he, by obtain ⟨q, hq⟩ := hd.out; exact ⟨n + q, by rw [hq, World.drewN_drewN]⟩⟩
  have HG := Aside0.mk hgn
  clear hgn
  have z2 : w.cell? ⟨g, 2, none⟩ = some (.bool bad) := (blk_cell hb 2).trans rfl
  have z3 := blk_frozen hb 1
  have z4 := blk_frozen hb 2
  have HB := Aside0.mk hb
  clear hb hC hc hg
  have fin1 : ∀ w1, Drawn0 w w1 → (w1.setCell ⟨g, 2, none⟩ (.bool true)).heap[g]? = some (.cells (go_st A0 l0.length c0 at_ true) 87 (0, 0)) ∧ w.grownBy (w1.setCell ⟨g, 2, none⟩ (.bool true)) (some g) := fun w1 hd =>
    ⟨blk_set (go_step HB.out hd.below) 2 _, (World.grownBy.ofBelow hd.below).then ⟨rfl, rfl, rfl, by simp [World.setCell], fun j _ hj => Below.heap_setCell _ _ _ _ (fun e => hj (by rw [e]))⟩⟩
  have fin2 : ∀ w1, Drawn0 w w1 → (w1.setCell ⟨g, 1, none⟩ (.int .i64 mx_)).heap[g]? = some (.cells (go_st A0 l0.length c0 mx_ bad) 87 (0, 0)) ∧ w.grownBy (w1.setCell ⟨g, 1, none⟩ (.int .i64 mx_)) (some g) := fun w1 hd =>
    ⟨blk_set (go_step HB.out hd.below) 1 _, (World.grownBy.ofBelow hd.below).then ⟨rfl, rfl, rfl, by simp [World.setCell], fun j _ hj => Below.heap_setCell _ _ _ _ (fun e => hj (by rw [e]))⟩⟩
  have F1 := Aside0.mk fin1
  have F2 := Aside0.mk fin2
  clear fin1 fin2
  cases bad with
  | true =>
    rw [if_pos (by simp)] at h
    simp only [Option.some.injEq, Prod.mk.injEq] at h
    obtain ⟨rfl, rfl, rfl⟩ := h
    go_enter Try.func86, Try.ntmps86
    go_wp2
    go_quiet ((go_at_call 56; exact HG.out _))
    go_wp2
    go_ret
    exact ⟨rfl, F1.out _ ⟨⟨_, rfl⟩⟩⟩
  | false =>
    cases ok with
    | false =>
      rw [if_pos (by simp)] at h
      simp only [Option.some.injEq, Prod.mk.injEq] at h
      obtain ⟨rfl, rfl, rfl⟩ := h
      go_enter Try.func86, Try.ntmps86
      go_wp2
      go_quiet ((go_at_call 56; exact HG.out _))
      go_wp2
      go_ret
      exact ⟨rfl, F1.out _ ⟨⟨_, rfl⟩⟩⟩
    | true =>
      rw [if_neg (by simp)] at h
      simp only [Option.some.injEq, Prod.mk.injEq] at h
      obtain ⟨rfl, rfl, rfl⟩ := h
      go_enter Try.func86, Try.ntmps86
      go_wp2
      go_quiet ((go_at_call 56; exact HG.out _))
      go_wp2
      go_ret
      exact ⟨rfl, F2.out _ ⟨⟨_, rfl⟩⟩⟩
set_option maxHeartbeats 8000000 in
set_option maxRecDepth 100000 in
theorem go_text_calls (k g : Nat) (A0 : Option Addr) (c0 : Nat) (l0 : List Int) (at_ : Int) (bad : Bool) (n : ByteArray) (nx : Int) (b2 : Bool) (w : World) (hb : w.heap[g]? = some (.cells (go_st A0 l0.length c0 at_ bad) 87 (0, 0))) (hC : Kd.C (Kd.int .u8) w A0 l0.length l0) (hc : l0.length ≤ c0) (h : go_text k l0 at_ bad = some (n, nx, b2)) :
    Calls Try.prog 87 #[.pointer (some ⟨g, 0, none⟩)] w fun e w' => e = .returned (.string n) ∧ w'.heap[g]? = some (.cells (go_st A0 l0.length c0 nx b2) 87 (0, 0)) ∧ w.grownBy w' (some g) := by
  unfold go_text at h
  obtain ⟨⟨m, mx_, ok⟩, hg, h⟩ := Option.bind_eq_some_iff.mp h
  have mixed : Try.prog.follows Departure.mixedOrders = true := by kernel_rfl
  have z0 : w.cell? ⟨g, 0, none⟩ = some (.slice A0 l0.length c0) := (blk_cell hb 0).trans rfl
  have z1 : w.cell? ⟨g, 1, none⟩ = some (.int .i64 at_) := (blk_cell hb 1).trans rfl
  have hgn : ∀ n, Calls Try.prog 57 #[.slice A0 l0.length c0, .int .i64 at_] (w.drewN n) fun e w' => e = .returned (.tuple #[.string m, .int .i64 mx_, .bool ok]) ∧ ∃ q, w' = w.drewN q := fun n =>
    (impl_GetText.calls k A0 c0 l0 at_ m mx_ ok (w.drewN n) (Kd.C_drewN hC n) hc hg).mono fun e w' ⟨he, hd⟩ => ⟨he, by obtain ⟨q, hq⟩ := hd.out; exact ⟨n + q, by rw [hq, World.drewN_drewN]⟩⟩
  have HG := Aside0.mk hgn
  clear hgn
  have z2 : w.cell? ⟨g, 2, none⟩ = some (.bool bad) := (blk_cell hb 2).trans rfl
  have z3 := blk_frozen hb 1
  have z4 := blk_frozen hb 2
  have HB := Aside0.mk hb
  clear hb hC hc hg
  have fin1 : ∀ w1, Drawn0 w w1 → (w1.setCell ⟨g, 2, none⟩ (.bool true)).heap[g]? = some (.cells (go_st A0 l0.length c0 at_ true) 87 (0, 0)) ∧ w.grownBy (w1.setCell ⟨g, 2, none⟩ (.bool true)) (some g) := fun w1 hd =>
    ⟨blk_set (go_step HB.out hd.below) 2 _, (World.grownBy.ofBelow hd.below).then ⟨rfl, rfl, rfl, by simp [World.setCell], fun j _ hj => Below.heap_setCell _ _ _ _ (fun e => hj (by rw [e]))⟩⟩
  have fin2 : ∀ w1, Drawn0 w w1 → (w1.setCell ⟨g, 1, none⟩ (.int .i64 mx_)).heap[g]? = some (.cells (go_st A0 l0.length c0 mx_ bad) 87 (0, 0)) ∧ w.grownBy (w1.setCell ⟨g, 1, none⟩ (.int .i64 mx_)) (some g) := fun w1 hd =>
    ⟨blk_set (go_step HB.out hd.below) 1 _, (World.grownBy.ofBelow hd.below).then ⟨rfl, rfl, rfl, by simp [World.setCell], fun j _ hj => Below.heap_setCell _ _ _ _ (fun e => hj (by rw [e]))⟩⟩
  have F1 := Aside0.mk fin1
  have F2 := Aside0.mk fin2
  clear fin1 fin2
  cases bad with
  | true =>
    rw [if_pos (by simp)] at h
    simp only [Option.some.injEq, Prod.mk.injEq] at h
    obtain ⟨rfl, rfl, rfl⟩ := h
    go_enter Try.func87, Try.ntmps87
    go_wp2
    go_quiet ((go_at_call 57; exact HG.out _))
    go_wp2
    go_ret
    exact ⟨rfl, F1.out _ ⟨⟨_, rfl⟩⟩⟩
  | false =>
    cases ok with
    | false =>
      rw [if_pos (by simp)] at h
      simp only [Option.some.injEq, Prod.mk.injEq] at h
      obtain ⟨rfl, rfl, rfl⟩ := h
      go_enter Try.func87, Try.ntmps87
      go_wp2
      go_quiet ((go_at_call 57; exact HG.out _))
      go_wp2
      go_ret
      exact ⟨rfl, F1.out _ ⟨⟨_, rfl⟩⟩⟩
    | true =>
      rw [if_neg (by simp)] at h
      simp only [Option.some.injEq, Prod.mk.injEq] at h
      obtain ⟨rfl, rfl, rfl⟩ := h
      go_enter Try.func87, Try.ntmps87
      go_wp2
      go_quiet ((go_at_call 57; exact HG.out _))
      go_wp2
      go_ret
      exact ⟨rfl, F2.out _ ⟨⟨_, rfl⟩⟩⟩
def go_all (k : Nat) (l : List Int) (at_ : Int) (bad : Bool) : Option (List S84 × Int × Bool) := (go_num k l at_ bad).bind fun a => if a.1 > 8 then some ([], a.2.1, true) else go_ops k l a.1.toNat a.2.1 a.2.2 []
theorem go_C {w w1 : World} {g : Nat} {A0 : Option Addr} {l0 : List Int} (hC : ∀ w2 : World, w.grownBy w2 (some g) → Kd.C (Kd.int .u8) w2 A0 l0.length l0) (h : w.grownBy w1 (some g)) : Kd.C (Kd.int .u8) w1 A0 l0.length l0 := hC _ h
theorem go_set {w : World} {g gb j : Nat} {v : Value} {w0 : World} (h : w0.grownBy w (some g)) (hg : w0.heap.size ≤ gb) : w0.grownBy (w.setCell ⟨gb, j, none⟩ v) (some g) :=
  ⟨h.os, h.tape, h.output, by simpa [World.setCell] using h.size, fun k hk hkg => (Below.heap_setCell _ _ _ _ (by show k ≠ gb; omega)).trans (h.block k hk hkg)⟩
theorem go_alloc {w0 w : World} {g : Nat} (o : Obj) (h : w0.grownBy w (some g)) : w0.grownBy (w.alloc o) (some g) := h.then (World.grownBy.ofBelow (below_alloc (Below.refl _ _) o))
theorem go_al1 {w : World} {g : Nat} {o : Obj} (h : w.heap[g]? = some o) (o2 : Obj) : (w.alloc o2).heap[g]? = some o := blk_alloc h _
theorem go_bx {w2 w3 : World} {g : Nat} {o2 : Obj} {o : Obj} (hg : (w2.alloc o).grownBy w3 (some g)) (h : w2.heap[g]? = some o2) : w3.heap[w2.heap.size]? = some o := by
  have hgl : g < w2.heap.size := (Array.getElem?_eq_some_iff.1 h).1
  rw [hg.block w2.heap.size (by rw [World.size_alloc]; omega) (fun e => by injection e with e; omega)]
  exact heap_alloc_new w2 _
theorem go_al2 {w2 w3 : World} {g j : Nat} {o o2 : Obj} {v : Value} (h3 : w3.heap[g]? = some o) (h2 : w2.heap[g]? = some o2) : (w3.setCell ⟨w2.heap.size, j, none⟩ v).heap[g]? = some o := by
  have hgl : g < w2.heap.size := (Array.getElem?_eq_some_iff.1 h2).1
  rw [Below.heap_setCell _ _ _ _ (by show g ≠ w2.heap.size; omega)]
  exact h3
theorem go_bx5 {w2 w3 w5 : World} {g : Nat} {o2 : Obj} {n1 : Int} {s2 : ByteArray} {T : TypeId} (hg : (w3.setCell ⟨w2.heap.size, 1, none⟩ (.string s2)).grownBy w5 (some g)) (hb : w3.heap[w2.heap.size]? = some (.cells #[.int .i64 n1, .string ⟨#[]⟩, .string ⟨#[]⟩] T (0, 0))) (h : w2.heap[g]? = some o2) :
    w5.heap[w2.heap.size]? = some (.cells #[.int .i64 n1, .string s2, .string ⟨#[]⟩] T (0, 0)) := by
  have hgl : g < w2.heap.size := (Array.getElem?_eq_some_iff.1 h).1
  have hl : w2.heap.size < w3.heap.size := (Array.getElem?_eq_some_iff.1 hb).1
  rw [hg.block w2.heap.size (by simpa [World.setCell] using hl) (fun e => by injection e with e; omega)]
  exact blk_set hb 1 _
theorem go_bel {w0 w w1 : World} {g : Nat} (h : w0.grownBy w (some g)) (hb : Below w0.heap.size w w1) : w0.grownBy w1 (some g) :=
  ⟨hb.os.trans h.os, hb.tape.trans h.tape, hb.output.trans h.output, Nat.le_trans h.size hb.size, fun k hk hkg => (hb.block k hk).trans (h.block k hk hkg)⟩
theorem go_al3 {wr w2 w5 : World} {g j : Nat} {o o2 : Obj} {v : Value} (h5 : w5.heap[g]? = some o) (hg : g < wr.heap.size) (h2 : wr.grownBy w2 (some g)) : ((w5.setCell ⟨w2.heap.size, j, none⟩ v).alloc o2).heap[g]? = some o := by
  have := h2.size
  refine blk_alloc ?_ _
  rw [Below.heap_setCell _ _ _ _ (by show g ≠ w2.heap.size; omega)]
  exact h5
theorem go_cv (w5 : World) (a : Addr) (v : Value) (n1 : Int) (s2 s3 : ByteArray) (q : Nat) : Kd.C k84 ((w5.setCell a v).alloc (.cells #[.int .i64 n1, .string s2, .string s3] 84)) (some ⟨w5.heap.size, 0, none⟩) 1 [⟨n1, s2, s3⟩] := by
  have hh : ((w5.setCell a v).alloc (.cells #[.int .i64 n1, .string s2, .string s3] 84)).heap[w5.heap.size]? = some (.cells #[.int .i64 n1, .string s2, .string s3] 84 (0, 0)) := by
    have h1 := heap_alloc_new (w5.setCell a v) (.cells #[.int .i64 n1, .string s2, .string s3] 84)
    simpa [World.setCell] using h1
  exact (Kd.R_reads' (Kd.raw_R (d := k84) go_flat (xs := [⟨n1, s2, s3⟩]) (g := w5.heap.size) (cap := 1) (base := 0) (ok := fun _ => True) trivial (Nat.zero_le _) hh (Nat.le_refl _) (by simp [maxLen]) rfl rfl)).2.2
theorem go_b2 {w : World} {g : Nat} {A0 : Option Addr} {n c0 : Nat} {at_ : Int} {bad : Bool} {T : TypeId} (h : w.heap[g]? = some (.cells (go_st A0 n c0 at_ bad) T (0, 0))) : w.cell? ⟨g, 2, none⟩ = some (.bool bad) := (blk_cell h 2).trans rfl
theorem go_c1 {w : World} {b : Nat} {n1 : Int} {s2 s3 : ByteArray} {T : TypeId} (h : w.heap[b]? = some (.cells #[.int .i64 n1, .string s2, .string s3] T (0, 0))) : w.cell? ⟨b, 1, none⟩ = some (.string s2) := (blk_cell h 1).trans rfl
theorem go_d0 {w : World} {b : Nat} {n1 : Int} {s2 s3 : ByteArray} {T : TypeId} (h : w.heap[b]? = some (.cells #[.int .i64 n1, .string s2, .string s3] T (0, 0))) : w.cell? ⟨b, 0, none⟩ = some (.int .i64 n1) := (blk_cell h 0).trans rfl
theorem go_d1 {w : World} {b : Nat} {n1 : Int} {s2 s3 : ByteArray} {T : TypeId} (h : w.heap[b]? = some (.cells #[.int .i64 n1, .string s2, .string s3] T (0, 0))) : w.cell? ⟨b, 1, none⟩ = some (.string s2) := (blk_cell h 1).trans rfl
theorem go_d2 {w : World} {b : Nat} {n1 : Int} {s2 s3 : ByteArray} {T : TypeId} (h : w.heap[b]? = some (.cells #[.int .i64 n1, .string s2, .string s3] T (0, 0))) : w.cell? ⟨b, 2, none⟩ = some (.string s3) := (blk_cell h 2).trans rfl
set_option maxHeartbeats 8000000 in
set_option maxRecDepth 100000 in
theorem go_ops_calls (k g : Nat) (A0 : Option Addr) (c0 : Nat) (l0 : List Int) (at_ : Int) (bad : Bool) (r : List S84) (at2 : Int) (bad2 : Bool) (w : World) (hb : w.heap[g]? = some (.cells (go_st A0 l0.length c0 at_ bad) 87 (0, 0))) (hC : ∀ w2 : World, w.grownBy w2 (some g) → Kd.C (Kd.int .u8) w2 A0 l0.length l0) (hc : l0.length ≤ c0) (h : go_all k l0 at_ bad = some (r, at2, bad2)) :
    Calls Try.prog 65 #[.pointer (some ⟨g, 0, none⟩)] w fun e w' => ∃ v, e = .returned v ∧ Kd.R k84 84 w' w.heap.size (fun _ => True) v r ∧ w'.heap[g]? = some (.cells (go_st A0 l0.length c0 at2 bad2) 87 (0, 0)) ∧ w.grownBy w' (some g) := by
  unfold go_all at h
  obtain ⟨⟨n, nx, b1⟩, hn, h⟩ := Option.bind_eq_some_iff.mp h
  have hgw : g < w.heap.size := (Array.getElem?_eq_some_iff.1 hb).1
  have hnum := go_num_calls k g A0 c0 l0 at_ bad n nx b1 w hb (hC w (World.grownBy.refl w _)) hc hn
  have HNUM := Aside0.mk hnum
  have HC := Aside0.mk hC
  clear hnum hC hb hn
  by_cases h8 : n > 8
  · rw [if_pos h8] at h
    simp only [Option.some.injEq, Prod.mk.injEq] at h
    obtain ⟨rfl, rfl, rfl⟩ := h
    have h8' : (8 : Int) < n := h8
    go_enter Try.func65, Try.ntmps65
    go_wp2_with (with_reducible (go_at_call 86; refine HNUM.out.mono ?_; rintro e w1 ⟨rfl, hs1, hg1⟩; have y1 : w1.cell? ⟨g, 2, none⟩ = some (.bool b1) := (blk_cell hs1 2).trans rfl; have y2 := blk_frozen hs1 2; have HS1 := Aside0.mk hs1; have HG1 := Aside0.mk hg1; clear hs1 hg1))
    go_ret
    exact ⟨_, rfl, Kd.R_nil _ _ _ _ _, blk_set HS1.out 2 _, HG1.out.then ⟨rfl, rfl, rfl, by simp [World.setCell], fun j _ hj => Below.heap_setCell _ _ _ _ (fun e => hj (by rw [e]))⟩⟩
  · rw [if_neg h8] at h
    have h8' : ¬ (8 : Int) < n := h8
    have H := Aside0.mk h
    clear h
    go_enter Try.func65, Try.ntmps65
    go_wp2_with (with_reducible (go_at_call 86; refine HNUM.out.mono ?_; rintro e w1 ⟨rfl, hs1, hg1⟩; have HS1 := Aside0.mk hs1; have HG1 := Aside0.mk hg1; clear hs1 hg1))
    go_loopw [4, 14] (fun v4 v14 wr => ∃ (i : Nat) (acc : List S84) (at3 : Int) (bad3 : Bool), v14 = .int .i64 (i : Int) ∧ i ≤ n.toNat ∧ Aside0 (Kd.R k84 84 wr w.heap.size (fun j => j ≠ g) v4 acc) ∧ Aside0 (wr.heap[g]? = some (.cells (go_st A0 l0.length c0 at3 bad3) 87 (0, 0))) ∧ Aside0 (w.grownBy wr (some g)) ∧ Aside0 (go_ops k l0 (n.toNat - i) at3 bad3 acc = some (r, at2, bad2))) (fun v4 v14 _ => n.toNat - (intOf v14).toNat)
    case atStart => exact ⟨0, [], nx, b1, rfl, Nat.zero_le _, ⟨Kd.R_nil _ _ _ _ _⟩, ⟨HS1.out⟩, ⟨HG1.out⟩, ⟨H.out⟩⟩
    case round =>
      obtain ⟨i, acc, at3, bad3, rfl, hi, HO, HS, HG, HH⟩ := hrel
      by_cases hlt : i < n.toNat
      · have hin : (i : Int) < n := by omega
        have hh := HH.out
        rw [show n.toNat - i = (n.toNat - (i + 1)) + 1 by omega, go_ops] at hh
        obtain ⟨⟨n1, nx1, b4⟩, ha, hh⟩ := Option.bind_eq_some_iff.mp hh
        obtain ⟨⟨s2, nx2, b5⟩, hb2, hh⟩ := Option.bind_eq_some_iff.mp hh
        obtain ⟨⟨s3, nx3, b6⟩, hc2, hh⟩ := Option.bind_eq_some_iff.mp hh
        simp only at ha hb2 hc2 hh
        by_cases hla : acc.length < 1000
        rotate_left
        · rw [if_neg hla] at hh; cases hh
        rw [if_pos hla] at hh
        have HLA := Aside0.mk hla
        clear hla
        have hk1 := go_num_calls k g A0 c0 l0 at3 bad3 n1 nx1 b4 wr HS.out (HC.out wr HG.out) hc ha
        have HK1 := Aside0.mk hk1
        have HH2 := Aside0.mk hh
        have HB2 := Aside0.mk hb2
        have HC2 := Aside0.mk hc2
        clear hk1 ha hb2 hc2 hh
        go_wp2_with (first
          | (with_reducible (go_at_call 86; refine HK1.out.mono ?_; rintro e w2 ⟨rfl, hs2, hg2⟩; have HS2 := Aside0.mk hs2; have HG2 := Aside0.mk hg2; clear hs2 hg2))
          | (with_reducible (go_at_call 87; refine (go_text_calls k g A0 c0 l0 nx1 b4 s2 nx2 b5 (w2.alloc (.cells #[.int .i64 n1, .string ⟨#[]⟩, .string ⟨#[]⟩] 84)) (go_al1 HS2.out _) (HC.out _ (go_alloc _ (HG.out.then HG2.out))) hc HB2.out).mono ?_; rintro e w3 ⟨rfl, hs3, hg3⟩; have hbx := go_bx hg3 HS2.out; have y1 := go_c1 hbx; have y2 := blk_frozen hbx 1; have HS3 := Aside0.mk hs3; have HG3 := Aside0.mk hg3; have HBX := Aside0.mk hbx; clear hs3 hg3 hbx))
          | (with_reducible (go_at_call 87; refine (go_text_calls k g A0 c0 l0 nx2 b5 s3 nx3 b6 (w3.setCell ⟨w2.heap.size, 1, none⟩ (.string s2)) (go_al2 HS3.out HS2.out) (HC.out _ (go_set ((go_alloc _ (HG.out.then HG2.out)).then HG3.out) (HG.out.then HG2.out).size)) hc HC2.out).mono ?_; rintro e w5 ⟨rfl, hs5, hg5⟩; have hbx5 := go_bx5 hg5 HBX.out HS2.out; have x0 := go_d0 hbx5; have x1 := go_d1 hbx5; have x2 := go_d2 hbx5; have x3 := blk_frozen hbx5 2; have HS5 := Aside0.mk hs5; have HG5 := Aside0.mk hg5; clear hs5 hg5 hbx5))
          | ((with_reducible refine gate_builtin (b := .append) (xs := #[.tmp 25, .tmp 27]) rfl ?_); at_builtin; have gd := (go_set ((go_alloc (.cells #[.int .i64 n1, .string ⟨#[]⟩, .string ⟨#[]⟩] 84) HG2.out).then HG3.out) (j := 1) (v := .string s2) HG2.out.size).then HG5.out; have gf := go_alloc (.cells #[.int .i64 n1, .string s2, .string s3] 84) (go_set gd (j := 2) (v := .string s3) HG2.out.size); have hgr : g < wr.heap.size := (Array.getElem?_eq_some_iff.1 HS.out).1; have HGR := Aside0.mk hgr; have HF := Aside0.mk (And.intro gd gf); clear hgr gd gf; refine Kd.R_append_rows k84 (w0 := ((w5.setCell ⟨w2.heap.size, 2, none⟩ (.string s3)).alloc (.cells #[.int .i64 n1, .string s2, .string s3] 84))) w.heap.size rfl (.tmp 25) (.tmp 27) 54 84 (.agg #[(.int .i64 0), (.string ⟨#[]⟩), (.string ⟨#[]⟩)]) 40 rfl Try.underlying54 info84 rfl (by decide) (by omega) u4 acc [⟨n1, s2, s3⟩] _ _ _ (fun j => j ≠ g) (fun _ => False) rfl rfl ?aO ?aR (fun _ _ h => h) (fun _ h => h.elim) ?aF (Below.refl _ _) ?aS ?aL ?_; (case aR => exact go_cv _ _ _ _ _ _ 0); (case aF => exact (fun k hk e => by have h1 := HF.out.2.size; have h2 := HGR.out; omega)); (case aO => exact Kd.R_step HO.out (fun k hk hlt => HF.out.2.block k hlt (fun e => hk (by injection e)))); (case aS => exact Nat.le_trans HG.out.size HF.out.2.size); (case aL => have := HLA.out; show (acc.length + 1) * 40 ≤ _; omega); intro v7 w7 ho7 hb7 hg7 hat7; have HO7 := Aside0.mk ho7; have HB7 := Aside0.mk hb7; clear ho7 hb7 hg7 hat7))
        have hw : (i : Int) + 1 = ((i + 1 : Nat) : Int) := by omega
        have hs7 : w7.heap[g]? = some (.cells (go_st A0 l0.length c0 nx3 b6) 87 (0, 0)) := (HB7.out.block g hgw).trans (go_al3 HS5.out HGR.out HG2.out)
        have hg7 : w.grownBy w7 (some g) := go_bel (HG.out.then HF.out.2) HB7.out
        refine ⟨⟨i + 1, acc ++ [⟨n1, s2, s3⟩], nx3, b6, congrArg _ hw, by omega, HO7, ⟨hs7⟩, ⟨hg7⟩, HH2⟩, ?_⟩
        rw [hw]
        show n.toNat - (((i + 1 : Nat) : Int)).toNat < n.toNat - ((i : Int)).toNat
        omega
      · have hin : ¬ (i : Int) < n := by omega
        have hz : n.toNat - i = 0 := by omega
        have hh := HH.out
        rw [hz, go_ops] at hh
        simp only [Option.some.injEq, Prod.mk.injEq] at hh
        obtain ⟨rfl, rfl, rfl⟩ := hh
        go_wp2
        go_ret
        exact ⟨_, rfl, Kd.R_mono HO.out (fun _ _ => trivial), HS.out, HG.out⟩
def impl_GetOps.f (k : Nat) (l0 : List Int) : Option (List S84 × Bool) :=
  (go_all k l0 0 false).bind fun o => if o.2.2 = true then some ([], false) else (impl_OpsOk.f k o.1).bind fun ok => if ok = true then ((impl_putOps.f k [] o.1).bind fun b => (bytes_Equal.f b l0).bind fun e => if e = true then some (o.1, true) else some ([], false)) else some ([], false)
theorem go_base {w w1 : World} {o : Obj} (h : (w.alloc o).grownBy w1 (some w.heap.size)) : Below w.heap.size w w1 := by
  have h1 : Below w.heap.size w (w.alloc o) := below_alloc (Below.refl _ _) o
  exact ⟨h.os.trans h1.os, h.tape.trans h1.tape, h.output.trans h1.output, Nat.le_trans h1.size h.size, fun k hk => (h.block k (by rw [World.size_alloc]; omega) (fun e => by injection e with e; omega)).trans (h1.block k hk)⟩
set_option maxHeartbeats 8000000 in
set_option maxRecDepth 100000 in
theorem impl_GetOps.calls (k : Nat) (A0 : Option Addr) (c0 : Nat) (l0 : List Int) (r1 : List S84) (r2 : Bool) (w : World) (hr0 : Kd.C (Kd.int .u8) w A0 l0.length l0) (hc0 : l0.length ≤ c0) (h : impl_GetOps.f k l0 = some (r1, r2)) :
    Calls Try.prog 35 #[.slice A0 l0.length c0] w fun e w' => ∃ v0_ : Value, e = .returned (.tuple #[v0_, .bool r2]) ∧ Kd.R k84 84 w' w.heap.size (fun _ => True) v0_ r1 ∧ Below w.heap.size w w' := by
  unfold impl_GetOps.f at h
  obtain ⟨⟨o, at2, bad2⟩, ho, h⟩ := Option.bind_eq_some_iff.mp h
  simp only at h
  have hst : (w.alloc (.cells (go_st A0 l0.length c0 0 false) 87)).heap[w.heap.size]? = some (.cells (go_st A0 l0.length c0 0 false) 87 (0, 0)) := heap_alloc_new w _
  have hops : Calls Try.prog 65 #[.pointer (some ⟨w.heap.size, 0, none⟩)] (w.alloc (.cells #[.slice A0 l0.length c0, .int .i64 0, .bool false] 87)) _ := go_ops_calls k w.heap.size A0 c0 l0 0 false o at2 bad2 (w.alloc (.cells (go_st A0 l0.length c0 0 false) 87)) hst (fun w2 hw => Kd.C_below hr0 (go_base hw)) hc0 ho
  have HOPS := Aside0.mk hops
  have HR0 := Aside0.mk hr0
  clear hops hst ho hr0
  cases bad2 with
  | true =>
    rw [if_pos rfl] at h
    simp only [Option.some.injEq, Prod.mk.injEq] at h
    obtain ⟨rfl, rfl⟩ := h
    go_enter Try.func35, Try.ntmps35
    go_wp2_with (with_reducible (go_at_call 65; refine HOPS.out.mono ?_; rintro e w1 ⟨v1, rfl, ho1, hs1, hg1⟩; have y1 := go_b2 hs1; have HO1 := Aside0.mk ho1; have HG1 := Aside0.mk (go_base hg1); clear ho1 hs1 hg1))
    go_ret2
    exact ⟨_, rfl, Kd.R_nil _ _ _ _ _, HG1.out⟩
  | false =>
    rw [if_neg (by simp)] at h
    obtain ⟨ok, hok, h⟩ := Option.bind_eq_some_iff.mp h
    have HOK := Aside0.mk hok
    clear hok
    cases ok with
    | false =>
      rw [if_neg (by simp)] at h
      simp only [Option.some.injEq, Prod.mk.injEq] at h
      obtain ⟨rfl, rfl⟩ := h
      go_enter Try.func35, Try.ntmps35
      go_wp2_with (first
        | (with_reducible (go_at_call 65; refine HOPS.out.mono ?_; rintro e w1 ⟨v1, rfl, ho1, hs1, hg1⟩; have y1 := go_b2 hs1; obtain ⟨A1, c1, rfl⟩ := Kd.R_slice ho1; have HO1 := Aside0.mk ho1; have HG1 := Aside0.mk (go_base hg1); clear ho1 hs1 hg1))
        | (with_reducible (go_at_call 66; refine (impl_OpsOk.calls k A1 c1 o false w1 (Kd.R_reads' HO1.out).2.2 (Kd.R_reads' HO1.out).2.1 HOK.out).mono ?_; rintro e w2 ⟨rfl, hb2⟩; have HB2 := Aside0.mk hb2; clear hb2)))
      go_ret2
      exact ⟨_, rfl, Kd.R_nil _ _ _ _ _, below_then HG1.out HG1.out.size HB2.out⟩
    | true =>
      rw [if_pos rfl] at h
      obtain ⟨b, hb, h⟩ := Option.bind_eq_some_iff.mp h
      obtain ⟨eq, heq, h⟩ := Option.bind_eq_some_iff.mp h
      have HPB := Aside0.mk hb
      have HEQ := Aside0.mk heq
      clear hb heq
      have key : ∀ w1 A1 c1, Kd.R k84 84 w1 (w.alloc (.cells (go_st A0 l0.length c0 0 false) 87)).heap.size (fun _ => True) (.slice A1 o.length c1) o → ∀ w2, Below w1.heap.size w1 w2 → Calls Try.prog 68 #[.slice none 0 0, .slice A1 o.length c1] w2 fun e w3 => ∃ Ab cb, e = .returned (.slice Ab b.length cb) ∧ Kd.C (Kd.int .u8) w3 Ab b.length b ∧ b.length ≤ cb ∧ Below w2.heap.size w2 w3 := by
        intro w1 A1 c1 hR w2 hb2
        have hR2 := Kd.R_below hR hb2
        refine (impl_putOps.calls k (fun _ => False) (.slice none 0 0) [] A1 c1 o b w2 w2 (Below.refl _ _) (Kd.R_nil _ _ _ _ _) (fun W_ hk => k84_heap.C (fun q hlt => hk.2 q hlt (by simp)) (Kd.R_reads' hR2).2.2) (Kd.R_reads' hR2).2.1 HPB.out).mono ?_
        rintro e w3 ⟨v3, rfl, ho3, hb3, _⟩
        obtain ⟨Ab, cb, rfl⟩ := Kd.R_slice ho3
        exact ⟨Ab, cb, rfl, (Kd.R_reads' ho3).2.2, (Kd.R_reads' ho3).2.1, hb3⟩
      have KEY := Aside0.mk key
      clear key
      have keq : ∀ w1 w2 w3 Ab cb, Below w.heap.size w w1 → Below w1.heap.size w1 w2 → Below w2.heap.size w2 w3 → Kd.C (Kd.int .u8) w3 Ab b.length b → b.length ≤ cb → Calls Try.prog 67 #[.slice Ab b.length cb, .slice A0 l0.length c0] w3 fun e w4 => e = .returned (.bool eq) ∧ Drawn0 w3 w4 := fun w1 w2 w3 Ab cb h1 h2 h3 hC hcb =>
        bytes_Equal.calls Ab cb b A0 c0 l0 eq w3 hC hcb (Kd.C_below HR0.out (below_then (below_then h1 h1.size h2) (Nat.le_trans h1.size h2.size) h3)) hc0 HEQ.out
      have KEQ := Aside0.mk keq
      clear keq
      cases eq with
      | false =>
        rw [if_neg (by simp)] at h
        simp only [Option.some.injEq, Prod.mk.injEq] at h
        obtain ⟨rfl, rfl⟩ := h
        go_enter Try.func35, Try.ntmps35
        go_wp2_with (first
          | (with_reducible (go_at_call 65; refine HOPS.out.mono ?_; rintro e w1 ⟨v1, rfl, ho1, hs1, hg1⟩; have y1 := go_b2 hs1; obtain ⟨A1, c1, rfl⟩ := Kd.R_slice ho1; have HO1 := Aside0.mk ho1; have HG1 := Aside0.mk (go_base hg1); clear ho1 hs1 hg1))
          | (with_reducible (go_at_call 66; refine (impl_OpsOk.calls k A1 c1 o true w1 (Kd.R_reads' HO1.out).2.2 (Kd.R_reads' HO1.out).2.1 HOK.out).mono ?_; rintro e w2 ⟨rfl, hb2⟩; have HB2 := Aside0.mk hb2; clear hb2))
          | (with_reducible (go_at_call 68; refine (KEY.out w1 A1 c1 HO1.out w2 HB2.out).mono ?_; rintro e w3 ⟨Ab, cb, rfl, hC3, hc3, hb3⟩; have HC3 := Aside0.mk (And.intro hC3 (And.intro hc3 hb3)); clear hC3 hc3 hb3))
          | (with_reducible (go_at_call 67; refine (KEQ.out w1 w2 w3 Ab cb HG1.out HB2.out HC3.out.2.2 HC3.out.1 HC3.out.2.1).mono ?_; rintro e w4 ⟨rfl, hd4⟩; have HD4 := Aside0.mk hd4; clear hd4)))
        go_ret2
        have hb := below_then (below_then HG1.out HG1.out.size HB2.out) (Nat.le_trans HG1.out.size HB2.out.size) HC3.out.2.2
        exact ⟨_, rfl, Kd.R_nil _ _ _ _ _, below_then hb hb.size HD4.out.below⟩
      | true =>
        rw [if_pos rfl] at h
        simp only [Option.some.injEq, Prod.mk.injEq] at h
        obtain ⟨rfl, rfl⟩ := h
        go_enter Try.func35, Try.ntmps35
        go_wp2_with (first
          | (with_reducible (go_at_call 65; refine HOPS.out.mono ?_; rintro e w1 ⟨v1, rfl, ho1, hs1, hg1⟩; have y1 := go_b2 hs1; obtain ⟨A1, c1, rfl⟩ := Kd.R_slice ho1; have HO1 := Aside0.mk ho1; have HG1 := Aside0.mk (go_base hg1); clear ho1 hs1 hg1))
          | (with_reducible (go_at_call 66; refine (impl_OpsOk.calls k A1 c1 o true w1 (Kd.R_reads' HO1.out).2.2 (Kd.R_reads' HO1.out).2.1 HOK.out).mono ?_; rintro e w2 ⟨rfl, hb2⟩; have HB2 := Aside0.mk hb2; clear hb2))
          | (with_reducible (go_at_call 68; refine (KEY.out w1 A1 c1 HO1.out w2 HB2.out).mono ?_; rintro e w3 ⟨Ab, cb, rfl, hC3, hc3, hb3⟩; have HC3 := Aside0.mk (And.intro hC3 (And.intro hc3 hb3)); clear hC3 hc3 hb3))
          | (with_reducible (go_at_call 67; refine (KEQ.out w1 w2 w3 Ab cb HG1.out HB2.out HC3.out.2.2 HC3.out.1 HC3.out.2.1).mono ?_; rintro e w4 ⟨rfl, hd4⟩; have HD4 := Aside0.mk hd4; clear hd4)))
        go_ret2
        have hb := below_then (below_then HG1.out HG1.out.size HB2.out) (Nat.le_trans HG1.out.size HB2.out.size) HC3.out.2.2
        refine ⟨_, rfl, Kd.R_mono (Kd.R_lower (Kd.R_below (Kd.R_below (Kd.R_below HO1.out HB2.out) HC3.out.2.2) HD4.out.below) (by rw [World.size_alloc]; omega)) (fun _ _ => trivial), below_then hb hb.size HD4.out.below⟩


end Go.Proofs.Ytamkjoflkkffhaa.P
