/- The hash of a text, and the shard of a key: the program's and the reference's answer what the model answers. No condition but bounds on lengths. -/
import Derived.Test.YthkaifddpjjmaaaPlain
namespace Go.Proofs.Ythkaifddpjjmaaa.P
open Go.RowKit Go.Proofs.YthkaifddpjjmaaaW.PrintWords Go.Proofs.YthkaifddpjjmaaaW.PrintLast Go.Proofs.YthkaifddpjjmaaaW.PrintMore
set_option linter.unusedVariables false
set_option linter.unusedSimpArgs false
/-- One byte more. -/
def hashB (h b : Int) : Int := (((h.toNat ^^^ b.toNat : Nat) : Int) * 16777619) % 4294967296
def hashL (l : List Int) (h : Int) : Int := l.foldl hashB h
def hashM (s : ByteArray) : Int := hashL (bytesOf s) 2166136261
theorem hashB_range (h b : Int) : 0 ≤ hashB h b ∧ hashB h b < 4294967296 := by unfold hashB; omega
theorem hashL_range (l : List Int) : ∀ h : Int, 0 ≤ h → h < 4294967296 → 0 ≤ hashL l h ∧ hashL l h < 4294967296 := by
  induction l with
  | nil => intro h h0 h1; exact ⟨h0, h1⟩
  | cons b l ih => intro h h0 h1; exact ih _ (hashB_range h b).1 (hashB_range h b).2
theorem hashM_range (s : ByteArray) : 0 ≤ hashM s ∧ hashM s < 4294967296 := hashL_range _ _ (by omega) (by omega)
theorem bt_drop (s : ByteArray) (i : Nat) (h : i < s.size) : (bytesOf s).drop i = bt s (i : Int) :: (bytesOf s).drop (i + 1) := by
  have hl : i < (bytesOf s).length := by rw [bytesOf_length]; exact h
  rw [List.drop_eq_getElem_cons hl, ← rd_bytesOf, rd_nat _ _ hl]
theorem drop_end (s : ByteArray) (i : Nat) (h : s.size ≤ i) : (bytesOf s).drop i = [] := List.drop_eq_nil_of_le (by rw [bytesOf_length]; exact h)
theorem xor32_lt (a b : Nat) (ha : a < 4294967296) (hb : b < 4294967296) : a ^^^ b < 4294967296 := Nat.xor_lt_two_pow (n := 32) (by omega) (by omega)
end Go.Proofs.Ythkaifddpjjmaaa.P
