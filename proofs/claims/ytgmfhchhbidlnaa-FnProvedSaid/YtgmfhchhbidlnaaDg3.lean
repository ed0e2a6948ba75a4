import Derived.Test.YtgmfhchhbidlnaaDg2
namespace Go.Proofs.Ytgmfhchhbidlnaa.P
open Go.RowKit Go.Proofs.YtgmfhchhbidlnaaW.PrintWords Go.Proofs.YtgmfhchhbidlnaaW.PrintLast Go.Proofs.YtgmfhchhbidlnaaW.PrintMore
structure FrBut (H n : Nat) (w w' : World) : Prop where
 os : w'.os = w.os
 tape : w'.tape = w.tape
 output : w'.output = w.output
 size : w.heap.size ≤ w'.heap.size
 block : ∀ k, k < n → k ≠ H → w'.heap[k]? = w.heap[k]?
 others : KeepsOthers w w'
theorem Fr.but {n : Nat} {w w' : World} (h : Fr n w w') (H : Nat) : FrBut H n w w' := ⟨h.1.os, h.1.tape, h.1.output, h.1.size, fun k hk _ => h.1.block k hk, h.2⟩
theorem FrBut.setCell {H n : Nat} {a w : World} (h : FrBut H n a w) {p : Addr} (hp : p.block = H ∨ n ≤ p.block) (u : Value) : FrBut H n a (w.setCell p u) :=
 ⟨h.os, h.tape, h.output, by have := h.size; simp [World.setCell]; exact this, fun k hk hn => (Below.heap_setCell _ _ _ _ (by omega)).trans (h.block k hk hn), h.others.trans (KeepsOthers.setCell _ _ _)⟩
theorem FrBut.drew {H n : Nat} {a w : World} (h : FrBut H n a w) : FrBut H n a w.drew := ⟨h.os, h.tape, h.output, h.size, h.block, h.others.trans (KeepsOthers.drew _)⟩
theorem FrBut.fr {H n m : Nat} {a b c : World} (h : FrBut H n a b) (k : Fr m b c) (hm : n ≤ m) : FrBut H n a c := ⟨k.1.os.trans h.os, k.1.tape.trans h.tape, k.1.output.trans h.output, Nat.le_trans h.size k.1.size, fun j hj hn => (k.1.block j (by omega)).trans (h.block j hj hn), h.others.trans k.2⟩
theorem FrBut.below {H n m : Nat} {a w : World} (h : FrBut H n a w) (h1 : m ≤ H) (h2 : m ≤ n) : Below m a w := ⟨h.os, h.tape, h.output, h.size, fun k hk => h.block k (by omega) (by omega)⟩
def t1of (v : List Int) (kk ww : Int) : Int :=
 ((rd v 7 + bits .xor .u32 (bits .xor .u32 (rotl (rd v 4) 26) (rotl (rd v 4) 21)) (rotl (rd v 4) 7) + bits .xor .u32 (bits .and .u32 (rd v 4) (rd v 5)) (bits .and .u32 (bits .xor .u32 IntKind.u32.max (rd v 4)) (rd v 6)) + kk) % 4294967296 + ww) % 4294967296
def tround (v : List Int) (kk ww : Int) : List Int :=
 [(t1of v kk ww + bits .xor .u32 (bits .xor .u32 (rotl (rd v 0) 30) (rotl (rd v 0) 19)) (rotl (rd v 0) 10) + bits .xor .u32 (bits .xor .u32 (bits .and .u32 (rd v 0) (rd v 1)) (bits .and .u32 (rd v 0) (rd v 2))) (bits .and .u32 (rd v 1) (rd v 2))) % 4294967296,
  rd v 0, rd v 1, rd v 2, (rd v 3 + t1of v kk ww) % 4294967296, rd v 4, rd v 5, rd v 6]
def vrow (h ws : List Int) : Nat → List Int
 | 0 => h
 | i + 1 => tround (vrow h ws i) (rd kList (i : Int)) (rd ws (i : Int))
theorem vrow_length (h ws : List Int) (h8 : h.length = 8) : ∀ i, (vrow h ws i).length = 8
 | 0 => h8
 | _ + 1 => rfl
def hrow (h v : List Int) : Nat → List Int
 | 0 => h
 | i + 1 => (hrow h v i).set i ((rd (hrow h v i) (i : Int) + rd v (i : Int)) % 4294967296)
theorem hrow_length (h v : List Int) (h8 : h.length = 8) : ∀ i, (hrow h v i).length = 8
 | 0 => h8
 | i + 1 => by simp [hrow, hrow_length h v h8 i]
def tblock (h b : List Int) : List Int := hrow h (vrow h (wrow b 48) 64) 8
theorem oct_of {l : List Int} (h : l.length = 8) : ∃ x0 x1 x2 x3 x4 x5 x6 x7, l = [x0, x1, x2, x3, x4, x5, x6, x7] := by
 match l, h with
 | [x0, x1, x2, x3, x4, x5, x6, x7], _ => exact ⟨x0, x1, x2, x3, x4, x5, x6, x7, rfl⟩
theorem oct {w : World} {B T : Nat} {x0 x1 x2 x3 x4 x5 x6 x7 : Int} (h : w.heap[B]? = some (.cells (u32s [x0, x1, x2, x3, x4, x5, x6, x7]) T (0, 0))) :
 w.cell? ⟨B, 0, none⟩ = some (.int .u32 x0) ∧ w.cell? ⟨B, 1, none⟩ = some (.int .u32 x1) ∧ w.cell? ⟨B, 2, none⟩ = some (.int .u32 x2) ∧ w.cell? ⟨B, 3, none⟩ = some (.int .u32 x3) ∧ w.cell? ⟨B, 4, none⟩ = some (.int .u32 x4) ∧ w.cell? ⟨B, 5, none⟩ = some (.int .u32 x5) ∧ w.cell? ⟨B, 6, none⟩ = some (.int .u32 x6) ∧ w.cell? ⟨B, 7, none⟩ = some (.int .u32 x7) := by
 exact ⟨u32s_cell h 0 (by simp), u32s_cell h 1 (by simp), u32s_cell h 2 (by simp), u32s_cell h 3 (by simp), u32s_cell h 4 (by simp), u32s_cell h 5 (by simp), u32s_cell h 6 (by simp), u32s_cell h 7 (by simp)⟩
theorem oct_store {w : World} {B T : Nat} {x0 x1 x2 x3 x4 x5 x6 x7 : Int} (h : w.heap[B]? = some (.cells (u32s [x0, x1, x2, x3, x4, x5, x6, x7]) T (0, 0))) (y0 y1 y2 y3 y4 y5 y6 y7 : Int) :
 ((((((((w.setCell ⟨B, 0, none⟩ (.int .u32 y0)).setCell ⟨B, 1, none⟩ (.int .u32 y1)).setCell ⟨B, 2, none⟩ (.int .u32 y2)).setCell ⟨B, 3, none⟩ (.int .u32 y3)).setCell ⟨B, 4, none⟩ (.int .u32 y4)).setCell ⟨B, 5, none⟩ (.int .u32 y5)).setCell ⟨B, 6, none⟩ (.int .u32 y6)).setCell ⟨B, 7, none⟩ (.int .u32 y7)).heap[B]? = some (.cells (u32s [y0, y1, y2, y3, y4, y5, y6, y7]) T (0, 0)) := by
 exact u32s_store (u32s_store (u32s_store (u32s_store (u32s_store (u32s_store (u32s_store (u32s_store h 0 y0) 1 y1) 2 y2) 3 y3) 4 y4) 5 y5) 6 y6) 7 y7
set_option maxHeartbeats 8000000 in
set_option maxRecDepth 100000 in
theorem impl_turnBlock.calls (H K : Nat) (A0 : Addr) (c0 : Nat) (h l0 : List Int) (w : World) (hr0 : (Kd.int .u8).C w (some A0) l0.length l0) (hl : l0.length = 64)
 (hh : w.heap[H]? = some (.cells (u32s h) 81 (0, 0))) (hk : w.heap[K]? = some (.cells (u32s kList) 98 (0, 0))) (hh8 : h.length = 8) (hne : K ≠ H) :
 Calls Try.prog 66 #[.pointer (some ⟨H, 0, none⟩), .slice (some A0) 64 c0, .pointer (some ⟨K, 0, none⟩)] w fun e w' => (∃ v, e = .returned v) ∧ w'.heap[H]? = some (.cells (u32s (tblock h l0)) 81 (0, 0)) ∧ FrBut H w.heap.size w w' := by
 obtain ⟨h0, h1, h2, h3, h4, h5, h6, h7, rfl⟩ := oct_of hh8
 have hHs : H < w.heap.size := (Array.getElem?_eq_some_iff.1 hh).1
 have hKs : K < w.heap.size := (Array.getElem?_eq_some_iff.1 hk).1
 have HH := Aside0.mk hh
 have HK := Aside0.mk hk
 have HR0 := Aside0.mk hr0
 have HL := Aside0.mk hl
 have H8 := Aside0.mk hh8
 have HNE := Aside0.mk hne
 clear hr0 hh hk hl hh8 hne
 go_enter Try.func66, Try.ntmps66
 go_wp2_with (go_at_call 81; refine (impl_wordsOf.calls A0 c0 l0 _ HR0.out HL.out).mono ?_; rintro e w1 ⟨rfl, hW, hF⟩; have HW := Aside0.mk hW; have HF := Aside0.mk hF; have HH1 : Aside0 (w1.heap[H]? = some (.cells (u32s [h0, h1, h2, h3, h4, h5, h6, h7]) 81 (0, 0))) := ⟨(hF.1.block H hHs).trans HH.out⟩; clear hW hF; obtain ⟨g0, g1, g2, g3, g4, g5, g6, g7⟩ := oct HH1.out)
 go_loopw [22] (fun v22 wr => ∃ i : Nat, v22 = .int .i64 (i : Int) ∧ i ≤ 64 ∧ Aside0 (wr.heap[w1.heap.size]? = some (.cells (u32s (vrow [h0, h1, h2, h3, h4, h5, h6, h7] (wrow l0 48) i)) 81 (0, 0))) ∧ Aside0 (Fr w1.heap.size w1 wr)) (fun v22 _ => 64 - (intOf v22).toNat)
 case atStart => exact ⟨0, rfl, Nat.zero_le _, ⟨by rw [World.alloc_heap_new]; rfl⟩, ⟨(Fr.refl _ _).alloc (Nat.le_refl _) _⟩⟩
 case round =>
  obtain ⟨i, rfl, hi, HV, HB⟩ := hrel
  have hWs : w.heap.size < w1.heap.size := (Array.getElem?_eq_some_iff.1 HW.out).1
  by_cases hlt : i < 64
  ·
   obtain ⟨v0, v1, v2, v3, v4, v5, v6, v7, hv⟩ := oct_of (vrow_length [h0, h1, h2, h3, h4, h5, h6, h7] (wrow l0 48) rfl i)
   rw [hv] at HV
   have HVE := Aside0.mk hv
   clear hv
   obtain ⟨g0, g1, g2, g3, g4, g5, g6, g7⟩ := oct HV.out
   have b5 : (i : Int) < 64 := by omega
   have n5 : (0 : Int) ≤ (i : Int) := by omega
   go_wp2
   go_quiet (fail)
   clear g0 g1 g2 g3 g4 g5 g6 g7
   obtain ⟨wq, hwq⟩ : ∃ wq, wr.drewN nq = wq := ⟨_, rfl⟩
   have HV2 : Aside0 (wq.heap[w1.heap.size]? = some (.cells (u32s [v0, v1, v2, v3, v4, v5, v6, v7]) 81 (0, 0))) := ⟨by rw [← hwq]; exact HV.out⟩
   have HB2 : Aside0 (Fr w1.heap.size w1 wq) := ⟨by rw [← hwq]; exact HB.out.drewN _⟩
   rw [hwq]
   clear hwq HV HB
   obtain ⟨g0, g1, g2, g3, g4, g5, g6, g7⟩ := oct HV2.out
   obtain ⟨kk, hkk⟩ : ∃ x, rd kList (i : Int) = x := ⟨_, rfl⟩
   obtain ⟨ww, hww⟩ : ∃ x, rd (wrow l0 48) (i : Int) = x := ⟨_, rfl⟩
   have gk : wq.cell? { block := K, off := i } = some (.int .u32 kk) := by
    rw [← hkk]
    exact u32s_cell (((HB2.out.1.block K (by omega)).trans (HF.out.1.block K hKs)).trans HK.out) i hlt
   have gw : wq.cell? { block := w.heap.size, off := i } = some (.int .u32 ww) := by
    rw [← hww]
    exact u32s_cell ((HB2.out.1.block w.heap.size hWs).trans HW.out) i (by rw [wrow_length]; exact hlt)
   have HX := Aside0.mk (And.intro hkk hww)
   clear hkk hww
   go_wp2_with (go_at_call 82; refine (rot.calls _ (by decide) _ _).mono ?_; rintro e w' ⟨rfl, rfl⟩)
   go_quiet (fail)
   clear g0 g1 g2 g3 g4 g5 g6 g7 gk gw
   obtain ⟨wp, hwp⟩ : ∃ wp, w'.drewN nq = wp := ⟨_, rfl⟩
   have HV3 : Aside0 (wp.heap[w1.heap.size]? = some (.cells (u32s [v0, v1, v2, v3, v4, v5, v6, v7]) 81 (0, 0))) := ⟨by rw [← hwp]; exact HV2.out⟩
   have HB3 : Aside0 (Fr w1.heap.size w1 wp) := ⟨by rw [← hwp]; exact HB2.out.drewN _⟩
   rw [hwp]
   clear hwp HV2 HB2
   obtain ⟨T1, hT1⟩ : ∃ x, ((v7 + bits .xor .u32 (bits .xor .u32 (rotl v4 26) (rotl v4 21)) (rotl v4 7) + bits .xor .u32 (bits .and .u32 v4 v5) (bits .and .u32 (bits .xor .u32 IntKind.u32.max v4) v6) + kk) % 4294967296 + ww) % 4294967296 = x := ⟨_, rfl⟩
   rw [hT1]
   have HT1 := Aside0.mk hT1
   clear hT1
   obtain ⟨g0, g1, g2, g3, g4, g5, g6, g7⟩ := oct HV3.out
   have f0 := u32s_free HV3.out 0
   have f1 := u32s_free HV3.out 1
   have f2 := u32s_free HV3.out 2
   have f3 := u32s_free HV3.out 3
   have f4 := u32s_free HV3.out 4
   have f5 := u32s_free HV3.out 5
   have f6 := u32s_free HV3.out 6
   have f7 := u32s_free HV3.out 7
   go_wp2_with (go_at_call 82; refine (rot.calls _ (by decide) _ _).mono ?_; rintro e w' ⟨rfl, rfl⟩)
   refine ⟨⟨i + 1, by go_num, by omega, ⟨?_⟩, ⟨?_⟩⟩, ?_⟩
   · have hs := oct_store HV3.out ((T1 + bits .xor .u32 (bits .xor .u32 (rotl v0 30) (rotl v0 19)) (rotl v0 10) + bits .xor .u32 (bits .xor .u32 (bits .and .u32 v0 v1) (bits .and .u32 v0 v2)) (bits .and .u32 v1 v2)) % 4294967296) v0 v1 v2 ((v3 + T1) % 4294967296) v4 v5 v6
     have hr : vrow [h0, h1, h2, h3, h4, h5, h6, h7] (wrow l0 48) (i + 1) = tround [v0, v1, v2, v3, v4, v5, v6, v7] kk ww := by
      rw [← HVE.out, ← HX.out.1, ← HX.out.2]; rfl
     have ht : t1of [v0, v1, v2, v3, v4, v5, v6, v7] kk ww = T1 := HT1.out
     rw [hr, tround, ht]
     exact hs
   · exact (((((((HB3.out.setCell (Nat.le_refl _) _).setCell (Nat.le_refl _) _).setCell (Nat.le_refl _) _).setCell (Nat.le_refl _) _).setCell (Nat.le_refl _) _).setCell (Nat.le_refl _) _).setCell (Nat.le_refl _) _).setCell (Nat.le_refl _) _
   · simp [intOf]; omega
  ·
   obtain rfl : i = 64 := by omega
   rw [show ((64 : Nat) : Int) = 64 from rfl]
   obtain ⟨w2, rfl⟩ : ∃ w2, w2 = wr := ⟨_, rfl⟩
   obtain ⟨v, hv⟩ : ∃ v, vrow [h0, h1, h2, h3, h4, h5, h6, h7] (wrow l0 48) 64 = v := ⟨_, rfl⟩
   rw [hv] at HV
   have hv8 : v.length = 8 := by rw [← hv]; exact vrow_length _ _ rfl _
   have HVE := Aside0.mk hv
   have HV8 := Aside0.mk hv8
   clear hv hv8
   have HHt : Aside0 (w2.heap[H]? = some (.cells (u32s [h0, h1, h2, h3, h4, h5, h6, h7]) 81 (0, 0))) := ⟨(HB.out.1.block H (by omega)).trans HH1.out⟩
   go_wp2
   go_loopw [109] (fun v109 wr => ∃ i : Nat, v109 = .int .i64 (i : Int) ∧ i ≤ 8 ∧ Aside0 (wr.heap[H]? = some (.cells (u32s (hrow [h0, h1, h2, h3, h4, h5, h6, h7] v i)) 81 (0, 0))) ∧ Aside0 (wr.heap[w1.heap.size]? = some (.cells (u32s v) 81 (0, 0))) ∧ Aside0 (FrBut H w.heap.size w wr)) (fun v109 _ => 8 - (intOf v109).toNat)
   case atStart => exact ⟨0, rfl, Nat.zero_le _, ⟨HHt.out⟩, ⟨HV.out⟩, ⟨(HF.out.but H).fr HB.out (by omega)⟩⟩
   case round =>
    obtain ⟨i, rfl, hi, HQ, HV', HB'⟩ := hrel
    by_cases hlt2 : i < 8
    ·
     obtain ⟨r, hr⟩ : ∃ r, hrow [h0, h1, h2, h3, h4, h5, h6, h7] v i = r := ⟨_, rfl⟩
     have hr8 : r.length = 8 := by rw [← hr]; exact hrow_length _ _ rfl _
     rw [hr] at HQ
     have HRE := Aside0.mk hr
     obtain ⟨xh, hxh⟩ : ∃ x, rd r (i : Int) = x := ⟨_, rfl⟩
     obtain ⟨xv, hxv⟩ : ∃ x, rd v (i : Int) = x := ⟨_, rfl⟩
     have ga := u32s_cell HQ.out i (by omega)
     have gb := u32s_cell HV'.out i (by rw [HV8.out]; omega)
     have gf := u32s_free HQ.out i
     rw [hxh] at ga
     rw [hxv] at gb
     have HX := Aside0.mk (And.intro hxh hxv)
     clear hr hr8 hxh hxv
     have b5 : (i : Int) < 8 := by omega
     have n5 : (0 : Int) ≤ (i : Int) := by omega
     go_wp2
     go_still_tail 10, (by kernel_rfl)
     go_wp2
     refine ⟨⟨i + 1, by go_num, by omega, ⟨?_⟩, ⟨?_⟩, ⟨(HB'.out.setCell (.inl rfl) _).drew⟩⟩, ?_⟩
     · have hs := u32s_store HQ.out i ((xh + xv) % 4294967296)
       rw [show hrow [h0, h1, h2, h3, h4, h5, h6, h7] v (i + 1) = r.set i ((xh + xv) % 4294967296) by rw [← HRE.out, ← HX.out.1, ← HX.out.2, ← HRE.out]; rfl]
       exact hs
     · exact (Below.heap_setCell _ _ _ _ (by show w1.heap.size ≠ H; omega)).trans HV'.out
     · simp [intOf]; omega
    · obtain rfl : i = 8 := by omega
      go_wp2
      go_end0
      refine ⟨⟨_, rfl⟩, ?_, HB'.out⟩
      rw [tblock, HVE.out]
      exact HQ.out
end Go.Proofs.Ytgmfhchhbidlnaa.P
