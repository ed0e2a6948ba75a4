import Derived.Test.YtgmfhchhbidlnaaPx0
import Derived.BigRegion
import Derived.BigQuiet
import Derived.StillTailTactics
import Derived.Deep.QuietTactic
import Derived.RangeFuncCalls
import Derived.RangeFuncBox
namespace Go.Proofs.Ytgmfhchhbidlnaa.P
open Go.RowKit Go.Proofs.YtgmfhchhbidlnaaW.PrintWords Go.Proofs.YtgmfhchhbidlnaaW.PrintLast Go.Proofs.YtgmfhchhbidlnaaW.PrintMore
def u32s (l : List Int) : Array Value := (l.map (Value.int .u32)).toArray
def rotl (a : Int) (n : Nat) : Int := Go.bits .or .u32 (a * 2 ^ n % 4294967296) (a / 2 ^ (32 - n))
theorem u32s_set (l : List Int) (i : Nat) (v : Int) : (u32s l).setIfInBounds i (.int .u32 v) = u32s (l.set i v) := by
 unfold u32s
 simp [List.map_set]
theorem u32s_size (l : List Int) : (u32s l).size = l.length := by simp [u32s]
theorem u32s_cell {w : World} {B : Nat} {T : Nat} {l : List Int} (h : w.heap[B]? = some (.cells (u32s l) T (0, 0))) (i : Nat) (hi : i < l.length) : w.cell? ⟨B, i, none⟩ = some (.int .u32 (rd l (i : Int))) := by
 have e : rd l (i : Int) = l[i] := by
  unfold rd
  simp [List.getD_eq_getElem?_getD, hi]
 rw [e]
 simp [World.cell?, h, u32s, hi]
theorem u32s_free {w : World} {B : Nat} {T : Nat} {l : List Int} (h : w.heap[B]? = some (.cells (u32s l) T (0, 0))) (i : Nat) : w.frozen? ⟨B, i, none⟩ = false := by
 simp [World.frozen?, h]
theorem u32s_store {w : World} {B : Nat} {T : Nat} {l : List Int} (h : w.heap[B]? = some (.cells (u32s l) T (0, 0))) (i : Nat) (v : Int) : (w.setCell ⟨B, i, none⟩ (.int .u32 v)).heap[B]? = some (.cells (u32s (l.set i v)) T (0, 0)) := by
 rw [← u32s_set]
 simp [World.setCell, h, Array.getElem?_modify]
theorem rdcell {w : World} {A0 : Addr} {l0 : List Int} (h : (Kd.int .u8).C w (some A0) l0.length l0) (i : Nat) (hi : i < l0.length) : w.cell? (A0.add i) = some (.int .u8 (rd l0 (i : Int))) := by
 obtain ⟨ad, e, h⟩ := Kd.at_int h (i : Int) (by omega) (by omega)
 cases e
 simpa using h
set_option maxHeartbeats 8000000 in
set_option maxRecDepth 100000 in
theorem rot.calls (m : Int) (hm : m ∈ [-2, -6, -7, -11, -13, -17, -18, -19, -22, -25]) (a : Int) (w : World) :
 Calls Try.prog 82 #[.int .u32 a, .int .i64 m] w fun e w' => e = .returned (.int .u32 (rotl a (32 + m).toNat)) ∧ w' = w := by
 have hx : ∃ n : Nat, Go.bits .and .u64 (IntKind.u64.wrap m) 31 = (n : Int) ∧ n < 32 ∧ (32 + m).toNat = n := by
  simp only [List.mem_cons, List.not_mem_nil, or_false] at hm
  rcases hm with rfl | rfl | rfl | rfl | rfl | rfl | rfl | rfl | rfl | rfl
  · exact ⟨30, by decide, by decide, by decide⟩
  · exact ⟨26, by decide, by decide, by decide⟩
  · exact ⟨25, by decide, by decide, by decide⟩
  · exact ⟨21, by decide, by decide, by decide⟩
  · exact ⟨19, by decide, by decide, by decide⟩
  · exact ⟨15, by decide, by decide, by decide⟩
  · exact ⟨14, by decide, by decide, by decide⟩
  · exact ⟨13, by decide, by decide, by decide⟩
  · exact ⟨10, by decide, by decide, by decide⟩
  · exact ⟨7, by decide, by decide, by decide⟩
 obtain ⟨n, h1, h2, h3⟩ := hx
 rw [h3]
 obtain ⟨r, hr⟩ : ∃ r, rotl a n = r := ⟨_, rfl⟩
 rw [hr]
 have HR := Aside0.mk hr
 clear hr h3 hm
 have b0 : (0 : Int) ≤ (n : Int) := by omega
 have b1 : (n : Int) ≤ 32 := by omega
 have h4 : IntKind.u64.wrap (32 - (n : Int)) = 32 - (n : Int) := by rw [IntKind.wrap_u64]; omega
 have b2 : (0 : Int) ≤ 32 - (n : Int) := by omega
 have b3 : 32 - (n : Int) ≤ 32 := by omega
 go_enter Try.func82, Try.ntmps82
 go_wp2
 go_ret
 exact ⟨by rw [← HR.out]; rfl, rfl⟩
def Fr (n : Nat) (w w' : World) : Prop := Below n w w' ∧ KeepsOthers w w'
theorem Fr.refl (n : Nat) (w : World) : Fr n w w := ⟨Below.refl _ _, KeepsOthers.refl _⟩
theorem Fr.trans {n : Nat} {a b c : World} (h : Fr n a b) (k : Fr n b c) : Fr n a c := ⟨h.1.trans k.1, h.2.trans k.2⟩
theorem Fr.alloc {n : Nat} {a w : World} (h : Fr n a w) (hn : n ≤ w.heap.size) (o : Obj) : Fr n a (w.alloc o) := ⟨h.1.alloc hn o, h.2.trans (KeepsOthers.alloc _ _)⟩
theorem Fr.setCell {n : Nat} {a w : World} (h : Fr n a w) {p : Addr} (hp : n ≤ p.block) (u : Value) : Fr n a (w.setCell p u) := ⟨h.1.setCell hp u, h.2.trans (KeepsOthers.setCell _ _ _)⟩
theorem Fr.drew {n : Nat} {a w : World} (h : Fr n a w) : Fr n a w.drew := ⟨h.1.drew, h.2.trans (KeepsOthers.drew _)⟩
theorem Fr.drewN {n : Nat} {a w : World} (h : Fr n a w) (m : Nat) : Fr n a (w.drewN m) := by
 induction m with
 | zero => exact h
 | succ m ih => exact ih.drew
theorem Fr.mono {n m : Nat} {a w : World} (h : Fr n a w) (hm : m ≤ n) : Fr m a w := ⟨h.1.mono hm, h.2⟩
end Go.Proofs.Ytgmfhchhbidlnaa.P
