/- HexOf: what the program's answers; its digits read back. No condition but bounds on lengths. -/
import Derived.Test.YtbelaenekbflfaaHex
import Derived.Test.YtbelaenekbflfaaPx1
import Derived.Test.YtbelaenekbflfaaPx2
namespace Go.Proofs.Ytbelaenekbflfaa.P
open Go.RowKit Go.Proofs.YtbelaenekbflfaaW.PrintWords Go.Proofs.YtbelaenekbflfaaW.PrintLast Go.Proofs.YtbelaenekbflfaaW.PrintMore
set_option linter.unusedVariables false
set_option linter.unusedSimpArgs false
theorem hexB_bytes {l : List Int} (h : ∀ x ∈ l, 0 ≤ x ∧ x < 256) : bytesOf (strOfNums l) = l := by
  unfold bytesOf strOfNums
  simp only [List.map_map]
  conv => rhs; rw [← List.map_id l]
  apply List.map_congr_left
  intro x hx
  have := h x hx
  simp only [Function.comp_apply, id_eq]
  rw [UInt8.toNat_ofNat_of_lt' (by simp [UInt8.size]; omega)]
  omega
theorem hexB_str (s : ByteArray) : strOfNums (bytesOf s) = s := by
  unfold strOfNums bytesOf
  rw [List.map_map]
  have : (s.data.toList.map ((fun x : Int => UInt8.ofNat x.toNat) ∘ fun b : UInt8 => (b.toNat : Int))) = s.data.toList := by
    conv => rhs; rw [← List.map_id s.data.toList]
    apply List.map_congr_left
    intro x _
    simp
  first | (rw [this]; rfl) | (simp [this]) | (show ByteArray.mk (List.toArray _) = _; rw [this])
def hexS (s : ByteArray) : ByteArray := strOfNums (hx_hex (bytesOf s))
theorem impl_HexOf_eq (s : ByteArray) (hs : s.size ≤ 10000000000000) : impl_HexOf.f s = some (hexS s) := by
  unfold impl_HexOf.f
  rw [if_pos (by omega)]
  rfl
theorem hexS_size (s : ByteArray) : (hexS s).size = 2 * s.size := by
  have h : (hexS s).size = (hx_hex (bytesOf s)).length := by
    unfold hexS strOfNums
    simp [ByteArray.size]
  rw [h, hx_hex_len, bytesOf_length]
theorem hexV_hd {d : Int} (h0 : 0 ≤ d) (h1 : d < 16) : hexV (hx_hd d) = d := by
  unfold hx_hd hexV
  split <;> split <;> (try split) <;> omega
theorem unhex_hex : ∀ (xs acc : List Int), (∀ x ∈ xs, 0 ≤ x ∧ x < 256) → unhexM (hx_hex xs) acc = (strOfNums (acc ++ xs), true) := by
  intro xs
  induction xs with
  | nil => intro acc _; rw [List.append_nil]; rfl
  | cons x l ih =>
    intro acc h
    have hx := h x (by simp)
    have e : hx_hex (x :: l) = hx_hd (x / 16) :: hx_hd (x % 16) :: hx_hex l := rfl
    rw [e, unhexM, hexV_hd (by omega) (by omega), hexV_hd (by omega) (by omega), if_neg (by omega), ih _ (fun y hy => h y (by simp [hy])), show x / 16 * 16 + x % 16 = x by omega, List.append_assoc]
    rfl
theorem hexS_back (s : ByteArray) : unhexM (bytesOf (hexS s)) [] = (s, true) := by
  unfold hexS
  rw [hexB_bytes (hx_hex_by _ (By.bytesOf s)), unhex_hex _ _ (By.bytesOf s), List.nil_append, hexB_str]
theorem hexD (j : Int) (h0 : 0 ≤ j) (h1 : j < 16) : bt (⟨#[48, 49, 50, 51, 52, 53, 54, 55, 56, 57, 97, 98, 99, 100, 101, 102]⟩ : ByteArray) j = hx_hd j := by
  have key : ∀ n : Fin 16, bt (⟨#[48, 49, 50, 51, 52, 53, 54, 55, 56, 57, 97, 98, 99, 100, 101, 102]⟩ : ByteArray) ((n.val : Nat) : Int) = hx_hd ((n.val : Nat) : Int) := by decide
  obtain ⟨n, rfl⟩ := Int.eq_ofNat_of_zero_le h0
  exact key ⟨n, by omega⟩
theorem spec_HexOf_loop (s : ByteArray) (hs : s.size ≤ 10000000000000) : ∀ (d i : Nat), s.size - i = d → i ≤ s.size →
    Ev (fun k => spec_HexOf.l0 k s (hx_hex ((bytesOf s).take i)) (i : Int)) (hexS s) := by
  have hl : (bytesOf s).length = s.size := bytesOf_length s
  intro d
  induction d with
  | zero =>
    intro i hd hi
    refine Ev.up (Ev.now _) (fun k _ => ?_)
    simp only [spec_HexOf.l0]
    rw [if_neg (by omega), List.take_of_length_le (by omega)]
    rfl
  | succ d ih =>
    intro i hd hi
    have hil : i < (bytesOf s).length := by omega
    have hb : bt s (i : Int) = (bytesOf s)[i] := by
      have h1 := bt_drop s i (by omega)
      rw [List.drop_eq_getElem_cons hil] at h1
      exact (List.cons.inj h1).1.symm
    have hr := By.bytesOf s (bytesOf s)[i] (List.getElem_mem hil)
    have ha : Go.bits .and .u8 (bt s (i : Int)) 15 = (bytesOf s)[i] % 16 := by rw [hb]; exact hx_and _ hr.1 hr.2
    have hst := hx_hex_snoc (bytesOf s) i hil
    have hln : (hx_hex ((bytesOf s).take i)).length = 2 * i := by rw [hx_hex_len, List.length_take]; omega
    refine Ev.up (ih (i + 1) (by omega) (by omega)) (fun k hk => ?_)
    simp only [spec_HexOf.l0]
    rw [if_pos (by omega), if_pos (by omega), ha, hb, if_pos (by omega), if_pos (by omega), if_pos (by omega), if_pos (by omega), Option.bind_some, if_pos (by rw [hln]; simp; omega), hexD _ (by omega) (by omega), hexD _ (by omega) (by omega), w64 (by omega) (by omega)]
    rw [hst, List.append_assoc] at hk
    exact hk
theorem spec_HexOf_ev (s : ByteArray) (hs : s.size ≤ 10000000000000) : Ev (fun k => spec_HexOf.f k s) (hexS s) := by
  refine (spec_HexOf_loop s hs _ 0 rfl (by omega)).congr (fun k => ?_)
  unfold spec_HexOf.f
  rfl
end Go.Proofs.Ytbelaenekbflfaa.P
