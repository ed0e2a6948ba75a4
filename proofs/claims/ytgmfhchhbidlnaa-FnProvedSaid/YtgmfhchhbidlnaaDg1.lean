import Derived.Test.YtgmfhchhbidlnaaDg0
namespace Go.Proofs.Ytgmfhchhbidlnaa.P
open Go.RowKit Go.Proofs.YtgmfhchhbidlnaaW.PrintWords Go.Proofs.YtgmfhchhbidlnaaW.PrintLast Go.Proofs.YtgmfhchhbidlnaaW.PrintMore
def be4 (l : List Int) (i : Nat) : Int := bits .or .u32 (bits .or .u32 (bits .or .u32 (rd l ((4 * i : Nat) : Int) % 4294967296 * 16777216 % 4294967296) (rd l ((4 * i + 1 : Nat) : Int) % 4294967296 * 65536 % 4294967296)) (rd l ((4 * i + 2 : Nat) : Int) % 4294967296 * 256 % 4294967296)) (rd l ((4 * i + 3 : Nat) : Int) % 4294967296)
def w16 (l : List Int) (i : Nat) : List Int := (List.range i).map (be4 l) ++ List.replicate (64 - i) 0
theorem w16_set (l : List Int) (i : Nat) (h : i < 16) : (w16 l i).set i (be4 l i) = w16 l (i + 1) := by
 unfold w16
 rw [List.set_append, if_neg (by simp), List.length_map, List.length_range, Nat.sub_self, show 64 - i = (64 - (i + 1)) + 1 by omega, List.replicate_succ, List.set_cons_zero, List.range_succ, List.map_append]
 simp
def wnext (l : List Int) (i : Nat) : Int :=
 (rd l ((i - 16 : Nat) : Int) + Go.bits .xor .u32 (Go.bits .xor .u32 (rotl (rd l ((i - 15 : Nat) : Int)) 25) (rotl (rd l ((i - 15 : Nat) : Int)) 14)) (rd l ((i - 15 : Nat) : Int) / 8) + rd l ((i - 7 : Nat) : Int)
  + Go.bits .xor .u32 (Go.bits .xor .u32 (rotl (rd l ((i - 2 : Nat) : Int)) 15) (rotl (rd l ((i - 2 : Nat) : Int)) 13)) (rd l ((i - 2 : Nat) : Int) / 1024)) % 4294967296
def wrow (b : List Int) : Nat → List Int
 | 0 => w16 b 16
 | k + 1 => (wrow b k).set (16 + k) (wnext (wrow b k) (16 + k))
theorem w16_length (b : List Int) : (w16 b 16).length = 64 := by simp [w16]
theorem wrow_length (b : List Int) : ∀ k, (wrow b k).length = 64
 | 0 => w16_length b
 | k + 1 => by simp [wrow, wrow_length b k]
set_option maxHeartbeats 8000000 in
set_option maxRecDepth 100000 in
theorem impl_wordsOf.calls (A0 : Addr) (c0 : Nat) (l0 : List Int) (w : World) (hr0 : (Kd.int .u8).C w (some A0) l0.length l0) (hl : l0.length = 64) :
 Calls Try.prog 81 #[.slice (some A0) 64 c0] w fun e w' => e = .returned (.pointer (some ⟨w.heap.size, 0, none⟩)) ∧ w'.heap[w.heap.size]? = some (.cells (u32s (wrow l0 48)) 98 (0, 0)) ∧ Fr w.heap.size w w' := by
 have HR0 := Aside0.mk hr0
 clear hr0
 go_enter Try.func81, Try.ntmps81
 go_wp2
 go_loopw [10] (fun v10 wr => ∃ i : Nat, v10 = .int .i64 (i : Int) ∧ i ≤ 16 ∧ Aside0 (wr.heap[w.heap.size]? = some (.cells (u32s (w16 l0 i)) 98 (0, 0))) ∧ Aside0 (Fr w.heap.size w wr)) (fun v10 _ => 16 - (intOf v10).toNat)
 case atStart => exact ⟨0, rfl, Nat.zero_le _, ⟨by rw [World.alloc_heap_new]; rfl⟩, ⟨(Fr.refl _ _).alloc (Nat.le_refl _) _⟩⟩
 case round =>
  obtain ⟨i, rfl, hi, HI, HB⟩ := hrel
  by_cases hlt : i < 16
  ·
   have rdn : ∀ m : Nat, m < 64 → wr.cell? (A0.add m) = some (.int .u8 (rd l0 (m : Int))) := fun m hm => (HB.out.1.cell (World.block_lt_of_cell? w _ (rdcell HR0.out m (by omega)))).trans (rdcell HR0.out m (by omega))
   obtain ⟨x0, hx0⟩ : ∃ x, rd l0 ((4 * i : Nat) : Int) = x := ⟨_, rfl⟩
   obtain ⟨x1, hx1⟩ : ∃ x, rd l0 ((4 * i + 1 : Nat) : Int) = x := ⟨_, rfl⟩
   obtain ⟨x2, hx2⟩ : ∃ x, rd l0 ((4 * i + 2 : Nat) : Int) = x := ⟨_, rfl⟩
   obtain ⟨x3, hx3⟩ : ∃ x, rd l0 ((4 * i + 3 : Nat) : Int) = x := ⟨_, rfl⟩
   have h0 := rdn (4 * i) (by omega)
   have h1 := rdn (4 * i + 1) (by omega)
   have h2 := rdn (4 * i + 2) (by omega)
   have h3 := rdn (4 * i + 3) (by omega)
   rw [hx0] at h0
   rw [hx1] at h1
   rw [hx2] at h2
   rw [hx3] at h3
   clear rdn
   have h1' : wr.cell? { block := A0.block, off := A0.off + (4 * i + 1) } = some (.int .u8 x1) := h1
   have h2' : wr.cell? { block := A0.block, off := A0.off + (4 * i + 2) } = some (.int .u8 x2) := h2
   have h3' : wr.cell? { block := A0.block, off := A0.off + (4 * i + 3) } = some (.int .u8 x3) := h3
   clear h1 h2 h3
   have hlen : (u32s (w16 l0 i)).size = 64 := by simp [u32s, w16]; omega
   obtain ⟨z, hz⟩ : ∃ z, wr.cell? { block := w.heap.size, off := i } = some z := by
    refine ⟨(u32s (w16 l0 i))[i]'(by omega), ?_⟩
    simp [World.cell?, HI.out]
   have hfz : wr.frozen? { block := w.heap.size, off := i } = false := by simp [World.frozen?, HI.out]
   have b5 : (i : Int) < 64 := by omega
   have n5 : (0 : Int) ≤ (i : Int) := by omega
   have b1 : (4 : Int) * (i : Int) < 64 := by omega
   have b2 : (4 : Int) * (i : Int) + 1 < 64 := by omega
   have b3 : (4 : Int) * (i : Int) + 2 < 64 := by omega
   have b4 : (4 : Int) * (i : Int) + 3 < 64 := by omega
   have n1 : (0 : Int) ≤ 4 * (i : Int) := by omega
   have n2 : (0 : Int) ≤ 4 * (i : Int) + 1 := by omega
   have n3 : (0 : Int) ≤ 4 * (i : Int) + 2 := by omega
   have n4 : (0 : Int) ≤ 4 * (i : Int) + 3 := by omega
   have t1 : ((4 : Int) * (i : Int)).toNat = 4 * i := by omega
   have t2 : ((4 : Int) * (i : Int) + 1).toNat = 4 * i + 1 := by omega
   have t3 : ((4 : Int) * (i : Int) + 2).toNat = 4 * i + 2 := by omega
   have t4 : ((4 : Int) * (i : Int) + 3).toNat = 4 * i + 3 := by omega
   have m1 : IntKind.i64.wrap (4 * (i : Int)) = 4 * (i : Int) := by rw [IntKind.wrap_i64]; omega
   have m2 : IntKind.i64.wrap (4 * (i : Int) + 1) = 4 * (i : Int) + 1 := by rw [IntKind.wrap_i64]; omega
   have m3 : IntKind.i64.wrap (4 * (i : Int) + 2) = 4 * (i : Int) + 2 := by rw [IntKind.wrap_i64]; omega
   have m4 : IntKind.i64.wrap (4 * (i : Int) + 3) = 4 * (i : Int) + 3 := by rw [IntKind.wrap_i64]; omega
   go_wp2
   go_still_tail 34, (by kernel_rfl)
   go_wp2
   refine ⟨⟨i + 1, by go_num, by omega, ⟨?_⟩, ⟨?_⟩⟩, ?_⟩
   · have hv : bits .or .u32 (bits .or .u32 (bits .or .u32 (x0 % 4294967296 * 16777216 % 4294967296) (x1 % 4294967296 * 65536 % 4294967296)) (x2 % 4294967296 * 256 % 4294967296)) (x3 % 4294967296) = be4 l0 i := by
      rw [← hx0, ← hx1, ← hx2, ← hx3]; rfl
     rw [hv, ← w16_set l0 i hlt, ← u32s_set]
     simp [World.setCell, World.drew, HI.out, -World.drew_eq, Array.getElem?_modify]
   · exact (HB.out.setCell (Nat.le_refl _) _).drew
   · simp [intOf]; omega
  ·
   obtain rfl : i = 16 := by omega
   rw [show ((16 : Nat) : Int) = 16 from rfl]
   go_wp2
   go_loopw [5] (fun v5 wq => ∃ k : Nat, v5 = .int .i64 ((16 + k : Nat) : Int) ∧ k ≤ 48 ∧ Aside0 (wq.heap[w.heap.size]? = some (.cells (u32s (wrow l0 k)) 98 (0, 0))) ∧ Aside0 (Fr w.heap.size w wq)) (fun v5 _ => 64 - (intOf v5).toNat)
   case atStart => exact ⟨0, rfl, Nat.zero_le _, ⟨HI.out⟩, ⟨HB.out⟩⟩
   case round =>
    obtain ⟨k, rfl, hk, HI2, HB2⟩ := hrel
    obtain ⟨i, hi⟩ : ∃ i : Nat, 16 + k = i := ⟨_, rfl⟩
    rw [hi]
    have HI16 := Aside0.mk (show 16 ≤ i by omega)
    by_cases hlt2 : i < 64
    ·
     obtain ⟨l, hl'⟩ : ∃ l, wrow l0 k = l := ⟨_, rfl⟩
     have hll : l.length = 64 := by rw [← hl']; exact wrow_length _ _
     have HL := Aside0.mk hl'
     clear hl'
     rw [HL.out] at HI2
     have HI' := Aside0.mk hi
     clear hi
     obtain ⟨xa, hxa⟩ : ∃ x, rd l ((i - 15 : Nat) : Int) = x := ⟨_, rfl⟩
     obtain ⟨xb, hxb⟩ : ∃ x, rd l ((i - 2 : Nat) : Int) = x := ⟨_, rfl⟩
     obtain ⟨xc, hxc⟩ : ∃ x, rd l ((i - 16 : Nat) : Int) = x := ⟨_, rfl⟩
     obtain ⟨xd, hxd⟩ : ∃ x, rd l ((i - 7 : Nat) : Int) = x := ⟨_, rfl⟩
     obtain ⟨xe, hxe⟩ : ∃ x, rd l (i : Int) = x := ⟨_, rfl⟩
     have hi16 := HI16.out
     have ha := u32s_cell HI2.out (i - 15) (by omega)
     have hb := u32s_cell HI2.out (i - 2) (by omega)
     have hc := u32s_cell HI2.out (i - 16) (by omega)
     have hd := u32s_cell HI2.out (i - 7) (by omega)
     have he := u32s_cell HI2.out i (by omega)
     have hf := u32s_free HI2.out i
     rw [hxa] at ha
     rw [hxb] at hb
     rw [hxc] at hc
     rw [hxd] at hd
     rw [hxe] at he
     have HX := Aside0.mk (And.intro hxa (And.intro hxb (And.intro hxc hxd)))
     have HLL := Aside0.mk hll
     clear hxa hxb hxc hxd hxe hll
     have hi16 := HI16.out
     have b1 : (i : Int) - 15 < 64 := by omega
     have b2 : (i : Int) - 2 < 64 := by omega
     have b3 : (i : Int) - 16 < 64 := by omega
     have b4 : (i : Int) - 7 < 64 := by omega
     have b5 : (i : Int) < 64 := by omega
     have n1 : (0 : Int) ≤ (i : Int) - 15 := by omega
     have n2 : (0 : Int) ≤ (i : Int) - 2 := by omega
     have n3 : (0 : Int) ≤ (i : Int) - 16 := by omega
     have n4 : (0 : Int) ≤ (i : Int) - 7 := by omega
     have n5 : (0 : Int) ≤ (i : Int) := by omega
     have t1 : ((i : Int) - 15).toNat = i - 15 := by omega
     have t2 : ((i : Int) - 2).toNat = i - 2 := by omega
     have t3 : ((i : Int) - 16).toNat = i - 16 := by omega
     have t4 : ((i : Int) - 7).toNat = i - 7 := by omega
     have m1 : IntKind.i64.wrap ((i : Int) - 15) = (i : Int) - 15 := by rw [IntKind.wrap_i64]; omega
     have m2 : IntKind.i64.wrap ((i : Int) - 2) = (i : Int) - 2 := by rw [IntKind.wrap_i64]; omega
     have m3 : IntKind.i64.wrap ((i : Int) - 16) = (i : Int) - 16 := by rw [IntKind.wrap_i64]; omega
     have m4 : IntKind.i64.wrap ((i : Int) - 7) = (i : Int) - 7 := by rw [IntKind.wrap_i64]; omega
     clear hi16
     go_wp2
     go_quiet (fail)
     go_wp2_with (go_at_call 82; refine (rot.calls _ (by decide) _ _).mono ?_; rintro e w' ⟨rfl, rfl⟩)
     obtain ⟨wq, hwq⟩ : ∃ wq, wr.drewN nq = wq := ⟨_, rfl⟩
     have hc' : wq.cell? { block := w.heap.size, off := i - 16 } = some (.int .u32 xc) := by rw [← hwq]; exact hc
     have hd' : wq.cell? { block := w.heap.size, off := i - 7 } = some (.int .u32 xd) := by rw [← hwq]; exact hd
     have he' : wq.cell? { block := w.heap.size, off := i } = some (.int .u32 xe) := by rw [← hwq]; exact he
     have hf' : wq.frozen? { block := w.heap.size, off := i } = false := by rw [← hwq]; exact hf
     have HI3 : Aside0 (wq.heap[w.heap.size]? = some (.cells (u32s l) 98 (0, 0))) := ⟨by rw [← hwq]; exact HI2.out⟩
     have HB3 : Aside0 (Fr w.heap.size w wq) := ⟨by rw [← hwq]; exact HB2.out.drewN _⟩
     rw [hwq]
     clear hwq ha hb hc hd he hf HI2 HB2
     have hi16 := HI16.out
     clear n3 n4
     have n3 : (0 : Int) ≤ (i : Int) - 16 := by omega
     have n3' : (16 : Int) ≤ (i : Int) := by omega
     have n4 : (0 : Int) ≤ (i : Int) - 7 := by omega
     have n4' : (7 : Int) ≤ (i : Int) := by omega
     clear hi16
     go_still_tail 14, (by kernel_rfl)
     go_wp2
     refine ⟨⟨k + 1, by rw [← HI'.out]; go_num, by have := HI'.out; omega, ⟨?_⟩, ⟨(HB3.out.setCell (Nat.le_refl _) _).drew⟩⟩, ?_⟩
     · have hv : (xc + Go.bits .xor .u32 (Go.bits .xor .u32 (rotl xa 25) (rotl xa 14)) (xa / 8) + xd + Go.bits .xor .u32 (Go.bits .xor .u32 (rotl xb 15) (rotl xb 13)) (xb / 1024)) % 4294967296 = wnext l i := by
        obtain ⟨q1, q2, q3, q4⟩ := HX.out
        rw [← q1, ← q2, ← q3, ← q4]; rfl
       have hs := u32s_store HI3.out i (wnext l i)
       rw [show wrow l0 (k + 1) = l.set i (wnext l i) by rw [← HI'.out, ← HL.out]; rfl]
       rw [← hv] at hs ⊢
       exact hs
     · simp [intOf]; omega
    · go_wp2
      go_ret
      refine ⟨rfl, ?_, HB2.out⟩
      have hk48 : k = 48 := by omega
      rw [← hk48]
      exact HI2.out
end Go.Proofs.Ytgmfhchhbidlnaa.P
