/- Hex digits: the program's and the reference's readers answer what the model answers. No condition but bounds on lengths. -/
import Derived.Test.YtbelaenekbflfaaHash
import Derived.Test.YtbelaenekbflfaaPx8
namespace Go.Proofs.Ytbelaenekbflfaa.P
open Go.RowKit Go.Proofs.YtbelaenekbflfaaW.PrintWords Go.Proofs.YtbelaenekbflfaaW.PrintLast Go.Proofs.YtbelaenekbflfaaW.PrintMore
set_option linter.unusedVariables false
set_option linter.unusedSimpArgs false
/-- A digit's number; -1: it is none. -/
def hexV (c : Int) : Int := if 48 ≤ c ∧ c ≤ 57 then c - 48 else if 97 ≤ c ∧ c ≤ 102 then c - 87 else -1
theorem hexV_range (c : Int) : -1 ≤ hexV c ∧ hexV c ≤ 15 := by unfold hexV; (repeat' split) <;> omega
/-- What pairs of digits say. -/
def unhexM : List Int → List Int → ByteArray × Bool
  | a :: b :: r, acc => if hexV a < 0 ∨ hexV b < 0 then (⟨#[]⟩, false) else unhexM r (acc ++ [hexV a * 16 + hexV b])
  | [_], _ => (⟨#[]⟩, false)
  | [], acc => (strOfNums acc, true)
theorem unhexM_odd : ∀ (n : Nat) (l acc : List Int), l.length = 2 * n + 1 → unhexM l acc = (⟨#[]⟩, false) := by
  intro n
  induction n with
  | zero =>
    intro l acc h
    match l, h with
    | [x], _ => rfl
  | succ n ih =>
    intro l acc h
    match l, h with
    | a :: b :: r, h =>
      rw [unhexM]
      split
      · rfl
      · exact ih r _ (by simp at h; omega)
theorem indexByte_hex : ∀ c : Fin 256, Lib.indexByte ((⟨#[48, 49, 50, 51, 52, 53, 54, 55, 56, 57, 97, 98, 99, 100, 101, 102]⟩ : ByteArray).data.toList) (c.val.toUInt8) = hexV (c.val : Int) := by decide +kernel
theorem indexByte_eq (c : Int) (h0 : 0 ≤ c) (h1 : c < 256) : strings_IndexByte.f (⟨#[48, 49, 50, 51, 52, 53, 54, 55, 56, 57, 97, 98, 99, 100, 101, 102]⟩ : ByteArray) c = some (hexV c) := by
  obtain ⟨n, rfl⟩ := Int.eq_ofNat_of_zero_le h0
  have h := indexByte_hex ⟨n, by omega⟩
  unfold strings_IndexByte.f
  rw [Int.toNat_natCast]
  exact congrArg some h
theorem or_hex (a b : Int) (ha : 0 ≤ a) (ha2 : a ≤ 15) (hb : 0 ≤ b) (hb2 : b ≤ 15) : (Go.bits .or .i64 (wrap64 (a * 16)) b) % 256 = a * 16 + b := by
  rw [w64 (by omega) (by omega)]
  obtain ⟨x, rfl⟩ := Int.eq_ofNat_of_zero_le ha
  obtain ⟨y, rfl⟩ := Int.eq_ofNat_of_zero_le hb
  rw [show ((x : Int) * 16) = ((x * 16 : Nat) : Int) by omega, i64_or_nat (x * 16) y (by omega) (by omega), nat_join 4 (x * 16) y (by omega) (by omega)]
  omega
theorem impl_UnHex_loop (s : ByteArray) (hs : s.size ≤ 10000000000000) (he : s.size % 2 = 0) : ∀ (d i : Nat) (acc : List Int), s.size - i = d → i ≤ s.size → i % 2 = 0 → acc.length ≤ i →
    Ev (fun k => impl_UnHex.l0 k s acc (i : Int)) (unhexM ((bytesOf s).drop i) acc) := by
  intro d
  induction d using Nat.strongRecOn with
  | _ d ih =>
    intro i acc hd hi h2 ha
    by_cases c0 : i < s.size
    · have b0 := bt_range s (i : Int)
      have b1 := bt_range s ((i + 1 : Nat) : Int)
      have e := bt_drop s i (by omega)
      have e' := bt_drop s (i + 1) (by omega)
      have r0 := hexV_range (bt s (i : Int))
      have r1 := hexV_range (bt s ((i + 1 : Nat) : Int))
      rw [e, e', unhexM]
      by_cases c1 : hexV (bt s (i : Int)) < 0 ∨ hexV (bt s ((i + 1 : Nat) : Int)) < 0
      · rw [if_pos c1]
        refine Ev.up (Ev.now _) (fun k _ => ?_)
        simp only [impl_UnHex.l0]
        rw [w64 (x := (i : Int) + 1) (by omega) (by omega), if_pos (by omega), if_pos (by omega), indexByte_eq _ b0.1 (by omega), Option.bind_some, if_pos (by omega), if_pos (by omega), show ((i : Int) + 1) = ((i + 1 : Nat) : Int) from rfl, indexByte_eq _ b1.1 (by omega), Option.bind_some]
        by_cases c2 : hexV (bt s (i : Int)) < 0
        · rw [if_pos c2]
        · rw [if_neg c2, if_pos (by omega)]
      · rw [if_neg c1]
        refine Ev.up (ih (d - 2) (by omega) (i + 2) (acc ++ [hexV (bt s (i : Int)) * 16 + hexV (bt s ((i + 1 : Nat) : Int))]) (by omega) (by omega) (by omega) (by simp; omega)) (fun k hk => ?_)
        simp only [impl_UnHex.l0]
        rw [w64 (x := (i : Int) + 1) (by omega) (by omega), if_pos (by omega), if_pos (by omega), indexByte_eq _ b0.1 (by omega), Option.bind_some, if_pos (by omega), if_pos (by omega), show ((i : Int) + 1) = ((i + 1 : Nat) : Int) from rfl, indexByte_eq _ b1.1 (by omega), Option.bind_some, if_neg (by omega), if_neg (by omega), if_pos (by omega), or_hex _ _ (by omega) (by omega) (by omega) (by omega), w64 (by omega) (by omega)]
        exact hk
    · refine Ev.up (Ev.now _) (fun k _ => ?_)
      simp only [impl_UnHex.l0]
      rw [if_neg (by omega), drop_end s i (by omega)]
      rfl
theorem impl_UnHex_ev (s : ByteArray) (hs : s.size ≤ 10000000000000) : Ev (fun k => impl_UnHex.f k s) (unhexM (bytesOf s) []) := by
  by_cases c : s.size % 2 = 1
  · rw [unhexM_odd (s.size / 2) _ _ (by rw [bytesOf_length]; omega)]
    refine (Ev.now _).congr (fun k => ?_)
    unfold impl_UnHex.f
    rw [if_pos (by omega)]
  · refine (impl_UnHex_loop s hs (by omega) _ 0 [] rfl (by omega) rfl (by simp)).congr (fun k => ?_)
    unfold impl_UnHex.f
    rw [if_neg (by omega)]
    rfl
end Go.Proofs.Ytbelaenekbflfaa.P
