-- Written by wip/xp/xp.py over the kit's print; Lean checks it.
import Derived.Test.YtamkjoflkkffhaaPx0
namespace Go.Proofs.Ytamkjoflkkffhaa.P
open Go.RowKit Go.Proofs.YtamkjoflkkffhaaW.PrintWords Go.Proofs.YtamkjoflkkffhaaW.PrintLast Go.Proofs.YtamkjoflkkffhaaW.PrintMore
attribute [local go_sem] max2_int min2_int max_two min_two max_three min_three max_four min_four   -- for this text's walks alone
set_option linter.unusedVariables false
set_option linter.unusedSimpArgs false

/-! ### impl_pairAt: function 61 -/
-- by hand
/-- The place of the first pair of a key, from a place on; -1 without one. -/
def pairIdx : List S53 → List UInt8 → Int → Int
  | [], _, _ => -1
  | p :: l, key, i => if p.f0.toList = key then i else pairIdx l key (i + 1)
def impl_pairAt.f (l0 : List S53) (a1 : ByteArray) : Option (Int) := some (pairIdx l0 a1.toList 0)
theorem pairIdx_step (l : List S53) (key : List UInt8) (i : Nat) (h : i < l.length) :
    pairIdx (l.drop i) key i = if (rd_T53 l (i : Int)).f0.toList = key then (i : Int) else pairIdx (l.drop (i + 1)) key ((i + 1 : Nat) : Int) := by
  rw [List.drop_eq_getElem_cons h]
  have e : rd_T53 l (i : Int) = l[i] := by
    unfold rd_T53
    simp [List.getD_eq_getElem?_getD, h]
  rw [e]
  rfl
set_option maxHeartbeats 8000000 in
set_option maxRecDepth 100000 in
theorem impl_pairAt.lit (p : S53) (B : Nat) (key : ByteArray) (w : World) (hk : w.cell? ⟨B, 0, none⟩ = some (.string key)) :
    Calls Try.prog 84 #[.agg #[.string p.f0, .string p.f1], .pointer (some ⟨B, 0, none⟩)] w fun e w' => e = .returned (.bool (p.f0.toList == key.toList)) ∧ Below w.heap.size w w' := by
  have hB := World.block_lt_of_cell? w _ hk
  have hu := Try.underlying53
  go_enter Try.func84, Try.ntmps84
  go_wp2
  go_ret
  exact ⟨rfl, by repeat (first | exact Below.refl _ _ | apply below_alloc | apply pw_below_drewN | apply below_drew1)⟩
set_option maxHeartbeats 8000000 in
set_option maxRecDepth 100000 in
theorem impl_pairAt.index (A0 : Option Addr) (c0 : Nat) (l0 : List S53) (B : Nat) (key : ByteArray) (w : World) (hr0 : Kd.C k53 w A0 l0.length l0) (hc0 : l0.length ≤ c0) (hkey : w.cell? ⟨B, 0, none⟩ = some (.string key)) :
    Calls Try.prog 74 #[.slice A0 l0.length c0, .func (.func 84) #[] #[.pointer (some ⟨B, 0, none⟩)]] w fun e w' => e = .returned (.int .i64 (pairIdx l0 key.toList 0)) ∧ Below w.heap.size w w' := by
  have HR0 := Aside0.mk hr0
  have HC0 := Aside0.mk hc0
  have HK := Aside0.mk hkey
  have hlen : l0.length ≤ 9223372036854775807 := hr0.2.1
  clear hr0 hc0 hkey
  obtain ⟨r, hr⟩ : ∃ r, r = pairIdx l0 key.toList 0 := ⟨_, rfl⟩
  rw [← hr]
  have HRR := Aside0.mk hr
  clear hr
  go_enter Try.func74, Try.ntmps74
  go_wp2
  go_loopw [8] (fun v8 wr => ∃ i : Nat, v8 = .int .i64 (i : Int) ∧ i ≤ l0.length ∧ Aside0 (r = pairIdx (l0.drop i) key.toList i) ∧ Aside0 (Below w.heap.size w wr)) (fun v8 _ => l0.length - (intOf v8).toNat)
  case atStart => exact ⟨0, rfl, Nat.zero_le _, ⟨HRR.out⟩, ⟨Below.refl _ _⟩⟩
  case round =>
    obtain ⟨i, rfl, hi, HI, HB⟩ := hrel
    by_cases hlt : i < l0.length
    · obtain ⟨ad104, e104, hx104_0, hx104_1⟩ := at_T53 HR0.out (i : Int) (by omega) (by omega)
      cases e104
      simp only [Int.toNat_natCast] at hx104_0 hx104_1
      replace hx104_0 := (HB.out.cell (World.block_lt_of_cell? w _ hx104_0)).trans hx104_0
      replace hx104_1 := (HB.out.cell (World.block_lt_of_cell? w _ hx104_1)).trans hx104_1
      have hk := (HB.out.cell (World.block_lt_of_cell? w _ HK.out)).trans HK.out
      have HS := Aside0.mk (pairIdx_step l0 key.toList i hlt)
      by_cases he : (rd_T53 l0 (i : Int)).f0.toList = key.toList
      · have heb : ((rd_T53 l0 (i : Int)).f0.toList == key.toList) = true := beq_iff_eq.mpr he
        have HE := Aside0.mk he
        clear he
        go_wp2_with (go_at_call 84; refine (impl_pairAt.lit (rd_T53 l0 (i : Int)) B key _ (by assumption)).mono ?_; rintro e w1 ⟨rfl, hb1⟩; have HB1 := Aside0.mk hb1; clear hb1)
        go_ret
        have er : r = (i : Int) := by rw [HI.out, HS.out, if_pos HE.out]
        exact ⟨by rw [er]; rfl, below_then HB.out HB.out.size HB1.out⟩
      · have heb : ((rd_T53 l0 (i : Int)).f0.toList == key.toList) = false := beq_eq_false_iff_ne.mpr he
        have HE := Aside0.mk he
        clear he
        go_wp2_with (go_at_call 84; refine (impl_pairAt.lit (rd_T53 l0 (i : Int)) B key _ (by assumption)).mono ?_; rintro e w1 ⟨rfl, hb1⟩; have HB1 := Aside0.mk hb1; clear hb1)
        go_roundw
        case rel => exact ⟨i + 1, by go_num, by omega, ⟨by rw [HI.out, HS.out, if_neg HE.out]⟩, ⟨below_then HB.out HB.out.size HB1.out⟩⟩
        case measure => simp [intOf]; omega
    · obtain rfl : i = l0.length := by omega
      go_wp2
      go_ret
      have er : r = -1 := by rw [HI.out, List.drop_length]; rfl
      exact ⟨by rw [er]; rfl, HB.out⟩
set_option maxHeartbeats 8000000 in
set_option maxRecDepth 100000 in
theorem impl_pairAt.calls (A0 : Option Addr) (c0 : Nat) (l0 : List S53) (a1 : ByteArray) (r : Int) (w : World) (hr0 : Kd.C k53 w A0 l0.length l0) (hc0 : l0.length ≤ c0) (h : impl_pairAt.f l0 a1 = some r) :
    Calls Try.prog 61 #[.slice A0 l0.length c0, .string a1] w fun e w' => e = .returned (.int .i64 r) ∧ Below w.heap.size w w' := by
  obtain rfl := Option.some.inj h
  clear h
  have HR0 := Aside0.mk hr0
  have HC0 := Aside0.mk hc0
  clear hr0 hc0
  have hw0 : (w.alloc (.cells #[.string a1] 9)).cell? ⟨w.heap.size, 0, none⟩ = some (.string a1) := (World.cell?_alloc_at _ _ _ _ rfl).trans rfl
  have HW := Aside0.mk hw0
  clear hw0
  have HB := Aside0.mk ((Below.refl w.heap.size w).alloc (Nat.le_refl _) (.cells #[.string a1] 9))
  go_enter Try.func61, Try.ntmps61
  go_wp2_with (go_at_call 74; refine (impl_pairAt.index A0 c0 l0 w.heap.size a1 _ (Kd.C_alloc HR0.out _) HC0.out HW.out).mono ?_; rintro e w1 ⟨rfl, hb1⟩; have HB1 := Aside0.mk hb1; clear hb1)
  go_ret
  exact ⟨rfl, below_then HB.out HB.out.size HB1.out⟩


end Go.Proofs.Ytamkjoflkkffhaa.P
