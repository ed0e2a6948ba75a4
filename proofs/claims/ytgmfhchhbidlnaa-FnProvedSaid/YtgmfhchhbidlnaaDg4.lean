import Derived.Test.YtgmfhchhbidlnaaDg3
import Derived.RangeFuncNested
import Derived.RangeFuncBound
import Derived.RangeFuncCalls
import Derived.RangeFuncLeaves
import Derived.RangeFuncBox
import Derived.Shelf.Abstract
import Derived.Shelf.RegionOpen
import Derived.WalkKit
import Derived.OwnWalkIn
import Derived.TacticsInMore
import Derived.LoopNIn
import Derived.LoopIn
import Derived.Sort.QuietIn
namespace Go.Proofs.Ytgmfhchhbidlnaa.P
open Go.RowKit Go.Shelf Go.Proofs.YtgmfhchhbidlnaaW.PrintWords Go.Proofs.YtgmfhchhbidlnaaW.PrintLast Go.Proofs.YtgmfhchhbidlnaaW.PrintMore
attribute [local go_sem] Oper.semAt_some
def KpH (H n : Nat) (W W' : World) : Prop := W.heap.size ≤ W'.heap.size ∧ ∀ k, k < n → k ≠ H → W'.heap[k]? = W.heap[k]?
theorem KpH.refl (H n : Nat) (W : World) : KpH H n W W := ⟨Nat.le_refl _, fun _ _ _ => rfl⟩
theorem KpH.trans {H n : Nat} {A B C : World} (h : KpH H n A B) (k : KpH H n B C) : KpH H n A C := ⟨Nat.le_trans h.1 k.1, fun j hj hn => (k.2 j hj hn).trans (h.2 j hj hn)⟩
theorem KpH.put {H n : Nat} {w : World} (hn : n ≤ w.heap.size) (W : World) (l : Nat) (o o' : Obj) (hl : w.heap.size ≤ l) (_ : W.heap[l]? = some o) (_ : o.isCells = false) (_ : o.isWalk = false) : KpH H n W (W.putObj l o') := by
 refine ⟨?_, fun k hk _ => World.putObj_heap_other (by omega)⟩
 have := grownBy_putObj' W l o'
 exact this.size
theorem KpH.cell {H n : Nat} {W W' : World} (h : KpH H n W W') {p : Addr} (hp : p.block < n) (hH : p.block ≠ H) : W'.cell? p = W.cell? p := World.cell?_of_block (w := W) (h.2 p.block hp hH)
def upto (m k : Nat) : List (Fin m) := (List.finRange m).take k
theorem upto_succ {m k : Nat} (h : k < m) : upto m (k + 1) = upto m k ++ [⟨k, h⟩] := by
 have hl : k < (List.finRange m).length := by simpa using h
 rw [upto, upto, List.take_succ_eq_append_getElem hl]
 simp
theorem upto_length {m k : Nat} (h : k ≤ m) : (upto m k).length = k := by simp [upto, h]
theorem upto_fold {β : Type} (f : β → Nat → β) (b : β) {m k : Nat} (h : k ≤ m) : (upto m k).foldl (fun a x => f a x.1) b = (List.range k).foldl f b := by
 induction k with
 | zero => rfl
 | succ k ih => rw [upto_succ (by omega), List.foldl_append, ih (by omega), List.range_succ, List.foldl_append]; rfl
set_option maxRecDepth 100000 in
set_option maxHeartbeats 4000000 in
theorem chunk1 (n : Nat) (hn : 1 ≤ n) (l B1 B2 H n₀ b off m cap : Nat) (hb1 : B1 < n₀) (hb2 : B2 < n₀) (hH1 : B1 ≠ H) (hH2 : B2 ≠ H) (hcap : 64 * m ≤ cap) (hreach : 64 * m ≤ 140737488351232) (J Jx : List (Fin m) → World → Prop)
 (hY : ∀ pre x W, J pre W → pre.length < m → YieldAt Fence.wide (n - 1) Try.prog l #[.slice (some ⟨b, off + 64 * x.1, none⟩) 64 64] W fun e W' =>
  (e = .returned (.bool true) ∧ J (pre ++ [x]) W' ∧ KpH H n₀ W W') ∨ (e = .returned (.bool false) ∧ Jx (pre ++ [x]) W'))
 (W : World) (hB1 : W.cell? ⟨B1, 0, none⟩ = some (.slice (some ⟨b, off, none⟩) (64 * m) cap)) (hB2 : W.cell? ⟨B2, 0, none⟩ = some (.int .i64 64)) (h0 : J [] W) (hJ : AbidesFrom W.heap.size J) :
 CallsIn Fence.wide n Try.prog 80 #[.func (.yield l) #[] #[], .pointer (some ⟨B1, 0, none⟩), .pointer (some ⟨B2, 0, none⟩)] W fun e W' => (∃ v, e = .returned v) ∧
  ((∃ ys, ys = upto m m ∧ J ys W') ∨ (∃ pre, (∃ k, k ≤ m ∧ pre = upto m k) ∧ Jx pre W')) := by
 refine callsIn_of_wp Try.func80 rfl trivial ?_ rfl
 simp only [Try.ntmps80, List.size_toArray, List.length_cons, List.length_nil, Nat.reduceAdd, Nat.reduceSub, Array.replicate_succ, Array.replicate_zero, List.push_toArray, List.append_toArray, List.nil_append, List.cons_append]
 gi_wp2
 gi_loopw [4] (fun i wr => ∃ k : Nat, k ≤ m ∧ i = .int .i64 ((64 * k : Nat) : Int) ∧ J (upto m k) wr ∧ KpH H n₀ W wr)
  (fun i _ => 64 * m - (intOf i).toNat)
 case atStart => exact ⟨0, Nat.zero_le _, rfl, h0, KpH.refl _ _ _⟩
 case round =>
  obtain ⟨k, hk, rfl, hJs, hnx⟩ := hrel
  have hc1 := (hnx.cell (p := ⟨B1, 0, none⟩) hb1 hH1).trans hB1
  have hc2 := (hnx.cell (p := ⟨B2, 0, none⟩) hb2 hH2).trans hB2
  by_cases hlt : k < m
  ·
   have q1 : 64 * k < 64 * m := by omega
   have q2 : 64 * k ≤ 64 * m := by omega
   have q3 : 64 * k ≤ cap := by omega
   have q4 : ¬ cap = 64 * k := by omega
   have q5 : 64 ≤ 64 * m - 64 * k := by omega
   gi_wp2
   gi_quiet (fail)
   obtain ⟨fn, tmps, assign, body, hy, hR⟩ := hY _ ⟨k, hlt⟩ (wr.drewN nq) (hJ _ _ _ none hJs ⟨rfl, rfl, rfl, Nat.le_refl _, fun _ _ _ => rfl⟩ (fun r e => by cases e)) (by rw [upto_length hk]; exact hlt)
   dsimp only at hy
   gi_wp2
   refine hR.mono ?_
   rintro e W3 (⟨rfl, hJ3, hk3⟩ | ⟨rfl, hJx3⟩)
   · have hk4 : KpH H n₀ wr W3 := KpH.trans (B := wr.drewN nq) ⟨Nat.le_refl _, fun _ _ _ => rfl⟩ hk3
     have hd2 := (hk4.cell (p := ⟨B2, 0, none⟩) hb2 hH2).trans hc2
     gi_wp2
     go_roundw
     case rel => exact ⟨k + 1, by omega, by go_num, by rw [upto_succ hlt]; exact hJ3, hnx.trans hk4⟩
     case measure => simp [intOf]; omega
   · gi_wp2
     refine bodyPost_ret (results_none rfl _ _ _) rfl ?_
     exact ⟨⟨_, rfl⟩, .inr ⟨_, ⟨k + 1, by omega, (upto_succ hlt).symm⟩, hJx3⟩⟩
  · obtain rfl : k = m := by omega
    gi_wp2
    go_end0
    exact ⟨⟨_, rfl⟩, .inl ⟨_, rfl, hJs⟩⟩
theorem add_block (A : Addr) (q : Nat) : (A.add q).block = A.block := by
 unfold Addr.add
 split <;> rfl
theorem C_block {w w1 : World} {A : Addr} {n : Nat} {xs : List Int} (h : (Kd.int .u8).C w (some A) n xs) (hb : w1.heap[A.block]? = w.heap[A.block]?) : (Kd.int .u8).C w1 (some A) n xs :=
 ⟨h.1, h.2.1, fun hn => by
  obtain ⟨ad, e, hc⟩ := h.2.2 hn
  cases e
  exact ⟨_, rfl, fun j p hp => by
   obtain ⟨c, h1, h2, h3⟩ := hc j p hp
   exact ⟨c, h1, h2, fun i u hu => (World.cell?_of_block (w := w) (by rw [add_block]; exact hb)).trans (h3 i u hu)⟩⟩⟩
theorem chunk_stops (n : Nat) (hn : 1 ≤ n) (B1 B2 H n₀ b off m cap : Nat) (hb1 : B1 < n₀) (hb2 : B2 < n₀) (hH1 : B1 ≠ H) (hH2 : B2 ≠ H) (hcap : 64 * m ≤ cap) (hreach : 64 * m ≤ 140737488351232) (w : World)
 (hn₀ : n₀ ≤ w.heap.size) (hB1 : w.cell? ⟨B1, 0, none⟩ = some (.slice (some ⟨b, off, none⟩) (64 * m) cap)) (hB2 : w.cell? ⟨B2, 0, none⟩ = some (.int .i64 64)) :
 SeqStopsK Fence.wide n Try.prog 80 #[.pointer (some ⟨B1, 0, none⟩), .pointer (some ⟨B2, 0, none⟩)] (fun x : Fin m => #[.slice (some ⟨b, off + 64 * x.1, none⟩) 64 64]) (KpH H n₀) (fun ys => ys = upto m m) (fun pre => ∃ k, k ≤ m ∧ pre = upto m k) m w := fun l J Jx W hW hJ _ hY h0 =>
 chunk1 n hn l B1 B2 H n₀ b off m cap hb1 hb2 hH1 hH2 hcap hreach J Jx hY W ((hW.cell (p := ⟨B1, 0, none⟩) (by show B1 < _; omega)).trans hB1) ((hW.cell (p := ⟨B2, 0, none⟩) (by show B2 < _; omega)).trans hB2) h0 hJ
set_option maxHeartbeats 4000000 in
set_option maxRecDepth 100000 in
theorem chunk.calls (a : Option Addr) (len cap : Nat) (w : World) :
 Calls Try.prog 64 #[.slice a len cap, .int .i64 64] w fun e w' => e = .returned (.func (.func 80) #[] #[.pointer (some ⟨w.heap.size, 0, none⟩), .pointer (some ⟨w.heap.size + 1, 0, none⟩)]) ∧ w' = (w.alloc (.cells #[.slice a len cap] 22)).alloc (.cells #[.int .i64 64] 3) := by
 go_enter Try.func64, Try.ntmps64
 go_wp2
 go_ret
 exact ⟨by simp, rfl⟩
end Go.Proofs.Ytgmfhchhbidlnaa.P
