/- The hash of a text, and the shard of a key: the program's and the reference's answer what the model answers. No condition but bounds on lengths. -/
import Derived.Test.YthkaifddpjjmaaaPlain
import Derived.Test.YthkaifddpjjmaaaPx5
namespace Go.Proofs.Ythkaifddpjjmaaa.P
open Go.RowKit Go.Proofs.YthkaifddpjjmaaaW.PrintWords Go.Proofs.YthkaifddpjjmaaaW.PrintLast Go.Proofs.YthkaifddpjjmaaaW.PrintMore
set_option linter.unusedVariables false
set_option linter.unusedSimpArgs false
/-- One byte more. -/
def hashB (h b : Int) : Int := (((h.toNat ^^^ b.toNat : Nat) : Int) * 16777619) % 4294967296
def hashL (l : List Int) (h : Int) : Int := l.foldl hashB h
def hashM (s : ByteArray) : Int := hashL (bytesOf s) 2166136261
theorem hashB_range (h b : Int) : 0 ≤ hashB h b ∧ hashB h b < 4294967296 := by unfold hashB; omega
theorem hashL_range (l : List Int) : ∀ h : Int, 0 ≤ h → h < 4294967296 → 0 ≤ hashL l h ∧ hashL l h < 4294967296 := by
  induction l with
  | nil => intro h h0 h1; exact ⟨h0, h1⟩
  | cons b l ih => intro h h0 h1; exact ih _ (hashB_range h b).1 (hashB_range h b).2
theorem hashM_range (s : ByteArray) : 0 ≤ hashM s ∧ hashM s < 4294967296 := hashL_range _ _ (by omega) (by omega)
theorem bt_drop (s : ByteArray) (i : Nat) (h : i < s.size) : (bytesOf s).drop i = bt s (i : Int) :: (bytesOf s).drop (i + 1) := by
  have hl : i < (bytesOf s).length := by rw [bytesOf_length]; exact h
  rw [List.drop_eq_getElem_cons hl, ← rd_bytesOf, rd_nat _ _ hl]
theorem drop_end (s : ByteArray) (i : Nat) (h : s.size ≤ i) : (bytesOf s).drop i = [] := List.drop_eq_nil_of_le (by rw [bytesOf_length]; exact h)
theorem xor32_lt (a b : Nat) (ha : a < 4294967296) (hb : b < 4294967296) : a ^^^ b < 4294967296 := Nat.xor_lt_two_pow (n := 32) (by omega) (by omega)
theorem impl_Hash_loop (s : ByteArray) (hs : s.size ≤ 140737488355328) : ∀ (d i : Nat) (h : Int), s.size - i = d → i ≤ s.size → 0 ≤ h → h < 4294967296 →
    Ev (fun k => impl_Hash.l0 k s h (i : Int)) (hashL ((bytesOf s).drop i) h) := by
  intro d
  induction d with
  | zero =>
    intro i h hd hi h0 h1
    refine Ev.up (Ev.now _) (fun k _ => ?_)
    simp only [impl_Hash.l0]
    rw [if_neg (by omega), drop_end s i (by omega), w64 (by omega) (by omega)]
    rfl
  | succ d ih =>
    intro i h hd hi h0 h1
    have hb := bt_range s (i : Int)
    have hr := hashB_range h (bt s (i : Int))
    have e : ((Go.bits .xor .u32 h ((bt s (i : Int)) % 4294967296)) * 16777619) % 4294967296 = hashB h (bt s (i : Int)) := by
      rw [u32_xor h _ h0 h1 (by omega) (by omega), show bt s (i : Int) % 4294967296 = bt s (i : Int) by omega]
      rfl
    refine Ev.up ((ih (i + 1) _ (by omega) (by omega) hr.1 hr.2).cast (q := hashL ((bytesOf s).drop i) h) (by rw [bt_drop s i (by omega)]; rfl)) (fun k hk => ?_)
    simp only [impl_Hash.l0]
    rw [if_pos (by omega), if_pos (by omega), e, w64 (by omega) (by omega)]
    exact hk
theorem impl_Hash_ev (s : ByteArray) (hs : s.size ≤ 140737488355328) : Ev (fun k => impl_Hash.f k s) (hashM s) :=
  (impl_Hash_loop s hs _ 0 2166136261 rfl (by omega) (by omega) (by omega)).congr (fun k => rfl)
end Go.Proofs.Ythkaifddpjjmaaa.P
