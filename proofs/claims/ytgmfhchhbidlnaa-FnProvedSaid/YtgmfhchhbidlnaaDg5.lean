import Derived.Test.YtgmfhchhbidlnaaDg4
import Derived.Test.YtgmfhchhbidlnaaPx8
namespace Go.Proofs.Ytgmfhchhbidlnaa.P
open Go.RowKit Go.Shelf Go.Proofs.YtgmfhchhbidlnaaW.PrintWords Go.Proofs.YtgmfhchhbidlnaaW.PrintLast Go.Proofs.YtgmfhchhbidlnaaW.PrintMore
attribute [local go_sem] Oper.semAt_some
def h0List : List Int := [1779033703, 3144134277, 1013904242, 2773480762, 1359893119, 2600822924, 528734635, 1541459225]
def dwords (p : List Int) (k : Nat) : List Int := (List.range k).foldl (fun h i => tblock h ((p.take (64 * i + 64)).drop (64 * i))) h0List
def dbytes (h : List Int) : List Int := h.flatMap fun x => [x / 16777216 % 256, x / 65536 % 256, x / 256 % 256, x % 256]
def dg_Digest.f (k : Nat) (l0 : List Int) : Option ByteArray :=
 (impl_Padded.f k l0).bind fun p => if 0 < p.length ∧ p.length % 64 = 0 ∧ p.length ≤ 140737488351232 then some (strOfNums (dbytes (dwords p (p.length / 64)))) else none
theorem tblock_length (h b : List Int) (h8 : h.length = 8) : (tblock h b).length = 8 := hrow_length _ _ h8 _
theorem dwords_length (p : List Int) : ∀ k, (dwords p k).length = 8
 | 0 => rfl
 | k + 1 => by
  have := dwords_length p k
  unfold dwords at this ⊢
  rw [List.range_succ, List.foldl_append]
  exact tblock_length _ _ this
theorem reps_u8 (w : World) (base : Nat) (ok : Nat → Prop) (ys : List Int) : Reps ((Kd.int .u8).M w base ok) (Kd.int .u8).sz ys (ys.map (Value.int .u8)) := Kd.reps_scalar (enc := Value.int .u8) ys
set_option maxHeartbeats 8000000 in
set_option maxRecDepth 100000 in
theorem dg_Digest.calls (k : Nat) (A0 : Option Addr) (c0 : Nat) (l0 : List Int) (r : ByteArray) (w : World) (hr0 : Kd.C (Kd.int .u8) w A0 l0.length l0) (hc0 : l0.length ≤ c0) (h : dg_Digest.f k l0 = some r) :
 Calls Try.prog 45 #[.slice A0 l0.length c0] w fun e w' => e = .returned (.string r) ∧ Below w.heap.size w w' := by
 obtain ⟨p, hp, h⟩ := Option.bind_eq_some_iff.mp h
 have hP : 0 < p.length ∧ p.length % 64 = 0 ∧ p.length ≤ 140737488351232 := by
  apply Classical.byContradiction
  intro hn
  rw [if_neg hn] at h
  cases h
 rw [if_pos hP] at h
 have HR := Aside0.mk (Option.some.inj h)
 have HP := Aside0.mk hp
 have HPL := Aside0.mk hP
 have HR0 := Aside0.mk hr0
 have HC0 := Aside0.mk hc0
 clear hr0 hc0 h hp hP
 have ht8 := Try.underlying81
 refine (callsIn_wide (n := 3)).1 ?_
 refine callsIn_of_wp_marks Try.func45 rfl trivial ?_ rfl
 simp only [Try.ntmps45, List.size_toArray, List.length_cons, List.length_nil, Nat.reduceAdd, Nat.reduceSub, Array.replicate_succ, Array.replicate_zero, List.push_toArray, List.append_toArray, List.nil_append, List.cons_append]
 have hK0 := World.alloc_heap_new (w.alloc (.cells (u32s h0List) 81)) (.cells (u32s kList) 98)
 have HB3 : Aside0 (Below w.heap.size w (((w.alloc (.cells (u32s h0List) 81)).alloc (.cells (u32s kList) 98)).alloc (.cells #[.pointer (some ⟨w.heap.size + 1, 0, none⟩)] 82))) := ⟨(((Below.refl _ _).alloc (Nat.le_refl _) _).alloc (by simp) _).alloc (by simp; omega) _⟩
 have HK0 := Aside0.mk hK0
 clear hK0
 gi_wp2_with (first
  | (refine ⟨trivial, ?_⟩; gi_at_call 63; refine (callsIn_wide.2 (impl_rounds.calls _)).mono ?_; rintro e w' ⟨rfl, rfl⟩)
  | (refine ⟨trivial, ?_⟩; gi_at_call 65; refine (callsIn_wide.2 (impl_Padded.calls k A0 c0 l0 p _ (Kd.C_below HR0.out (((Below.refl _ _).alloc (Nat.le_refl _) _).alloc (by simp) _ |>.alloc (by simp; omega) _)) HC0.out HP.out)).mono ?_; rintro e w4 ⟨v4, rfl, ho4, hb4⟩; obtain ⟨g4, cap4, rfl, hg4, hgl4, -⟩ := Kd.R_form ho4 HPL.out.1; have HO4 := Aside0.mk ho4; have HB4 := Aside0.mk hb4; have HG4 := Aside0.mk hg4; clear ho4 hb4 hg4)
  | (refine ⟨trivial, ?_⟩; gi_at_call 64; refine (callsIn_wide.2 (chunk.calls _ _ _ _)).mono ?_; rintro e w' ⟨rfl, rfl⟩))
 have ho4 := HO4.out
 have hb4 := HB4.out
 have hg4 := HG4.out
 clear HO4 HB4 HG4
 obtain ⟨w3, hw3⟩ : ∃ w3, ((w.alloc (.cells (u32s h0List) 81)).alloc (.cells (u32s kList) 98)).alloc (.cells #[.pointer (some ⟨w.heap.size + 1, 0, none⟩)] 82) = w3 := ⟨_, rfl⟩
 have hs3 : w3.heap.size = w.heap.size + 3 := by rw [← hw3]; simp
 have hB03 : Below w.heap.size w w3 := by rw [← hw3]; exact HB3.out
 have hH3 : w3.heap[w.heap.size]? = some (.cells (u32s h0List) 81 (0, 0)) := by
  rw [← hw3, Below.heap_alloc _ _ _ (by simp; omega), Below.heap_alloc _ _ _ (by simp), World.alloc_heap_new]
 have hK3 : w3.heap[w.heap.size + 1]? = some (.cells (u32s kList) 98 (0, 0)) := by
  rw [← hw3, Below.heap_alloc _ _ _ (by simp)]
  have := World.alloc_heap_new (w.alloc (.cells (u32s h0List) 81)) (.cells (u32s kList) 98)
  rwa [World.size_alloc] at this
 have hQ3 : w3.heap[w.heap.size + 1 + 1]? = some (.cells #[.pointer (some ⟨w.heap.size + 1, 0, none⟩)] 82 (0, 0)) := by
  have := World.alloc_heap_new ((w.alloc (.cells (u32s h0List) 81)).alloc (.cells (u32s kList) 98)) (.cells #[.pointer (some ⟨w.heap.size + 1, 0, none⟩)] 82)
  rw [World.size_alloc, World.size_alloc, hw3] at this
  exact this
 replace hb4 : Below w3.heap.size w3 w4 := by rw [← hw3]; exact hb4
 replace ho4 : Kd.R (Kd.int .u8) 5 w4 w3.heap.size (fun _ => True) (.slice (some ⟨g4, 0, none⟩) p.length cap4) p := by rw [← hw3]; exact ho4
 replace hg4 : w3.heap.size ≤ g4 := by rw [← hw3]; exact hg4
 have hs4 := hb4.size
 have hC4 := (Kd.R_reads' ho4).2.2
 have hcap4 := (Kd.R_reads' ho4).2.1
 obtain ⟨m, hm⟩ : ∃ m, p.length = 64 * m := ⟨p.length / 64, by have := HPL.out; omega⟩
 have hpos := HPL.out.1
 have hmax := HPL.out.2.2
 have hB04 : Below w.heap.size w w4 := hB03.trans (hb4.mono (by omega))
 obtain ⟨w5, hw5⟩ : ∃ w5, (w4.alloc (.cells #[.slice (some ⟨g4, 0, none⟩) p.length cap4] 22)).alloc (.cells #[.int .i64 64] 3) = w5 := ⟨_, rfl⟩
 have hs5 : w5.heap.size = w4.heap.size + 2 := by rw [← hw5]; simp
 have hb5 : Below w4.heap.size w4 w5 := by rw [← hw5]; exact ((Below.refl _ _).alloc (Nat.le_refl _) _).alloc (by simp) _
 have hB05 : Below w.heap.size w w5 := hB04.trans (hb5.mono (by omega))
 have hc51 : w5.cell? ⟨w4.heap.size, 0, none⟩ = some (.slice (some ⟨g4, 0, none⟩) (64 * m) cap4) := by
  rw [← hm, ← hw5]; simp
 have hc52 : w5.cell? ⟨w4.heap.size + 1, 0, none⟩ = some (.int .i64 64) := by
  rw [← hw5]; simp
 have k5 : ∀ j, j < w3.heap.size → w5.heap[j]? = w3.heap[j]? := fun j hj => (hb5.block j (by omega)).trans (hb4.block j hj)
 have hH5 := (k5 w.heap.size (by omega)).trans hH3
 have hK5 := (k5 (w.heap.size + 1) (by omega)).trans hK3
 have hQ5 := (k5 (w.heap.size + 1 + 1) (by omega)).trans hQ3
 have hC5 : (Kd.int .u8).C w5 (some ⟨g4, 0, none⟩) p.length p := C_block hC4 (hb5.block g4 (by assumption))
 rw [hw5]
 have SS := Aside0.mk (chunk_stops (3 - 1) (by omega) w4.heap.size (w4.heap.size + 1) w.heap.size w5.heap.size g4 0 m cap4 (by omega) (by omega) (by omega) (by omega) (by omega) (by omega) w5 (Nat.le_refl _) hc51 hc52)
 have HZ := Aside0.mk (show w.heap.size + 3 ≤ w4.heap.size ∧ w5.heap.size = w4.heap.size + 2 ∧ p.length = 64 * m ∧ w.heap.size + 3 ≤ g4 ∧ g4 < w4.heap.size from ⟨by omega, hs5, hm, by omega, hgl4⟩)
 have HH5 := Aside0.mk hH5
 have HK5 := Aside0.mk hK5
 have HQ5 := Aside0.mk hQ5
 have HC5 := Aside0.mk hC5
 have HB05 := Aside0.mk hB05
 clear hs3 hB03 hH3 hK3 hQ3 hb4 ho4 hg4 hgl4 hs4 hC4 hcap4 hm hpos hmax hB04 hs5 hb5 hB05 hc51 hc52 k5 hH5 hK5 hQ5 hC5 hw5 hw3 HB3 HK0
 refine wpIn_rangeFunc_ownG rfl (by omega) (gf := 80) (lb := #[.pointer (some ⟨w4.heap.size, 0, none⟩), .pointer (some ⟨w4.heap.size + 1, 0, none⟩)]) rfl trivial (enters_of Try.func80 (by kernel_rfl) rfl)
  SS.out KpH.trans (KpH.put (Nat.le_refl _)) (Below.refl _ _) (fun _ => rfl)
  (fun pre W => W.heap[w.heap.size]? = some (.cells (u32s (pre.foldl (fun h x => tblock h ((p.take (64 * x.1 + 64)).drop (64 * x.1))) h0List)) 81 (0, 0)) ∧ KpH w.heap.size w5.heap.size w5 W ∧ Below w.heap.size w W)
  (fun _ _ _ => False)
  ?own
  (fun _ _ _ _ _ hs _ _ => hs)
  ⟨HH5.out, KpH.refl _ _ _, HB05.out⟩
  (fun x => { tmps := #[.slice A0 l0.length c0, undef, .string { data := #[] }, .pointer (some ⟨w.heap.size, 0, none⟩), .pointer (some ⟨w.heap.size + 1 + 1, 0, none⟩), .slice (some ⟨g4, 64 * x.1, none⟩) 64 64, undef, undef, undef,
   .agg #[.int .u32 1779033703, .int .u32 3144134277, .int .u32 1013904242, .int .u32 2773480762, .int .u32 1359893119, .int .u32 2600822924, .int .u32 528734635, .int .u32 1541459225],
   .pointer (some ⟨w.heap.size + 1, 0, none⟩), .slice A0 l0.length c0, .slice (some ⟨g4, 0, none⟩) p.length cap4, .func (.func 80) #[] #[.pointer (some ⟨w4.heap.size, 0, none⟩), .pointer (some ⟨w4.heap.size + 1, 0, none⟩)],
   .slice (some ⟨g4, 64 * x.1, none⟩) 64 64, undef, undef, undef, undef, undef, undef, undef, undef, undef, undef, undef, undef, undef, undef, undef, undef, undef, undef, undef, undef, undef, undef, undef, undef], defers := [] }) ?assign ?body ?done ?stop
 case own =>
  rintro pre W W' row ⟨h1, h2, h3⟩ hg hr
  have hz := HZ.out
  have hn : ∀ j, j < w5.heap.size → W'.heap[j]? = W.heap[j]? := fun j hj => hg.block j (by have := h2.1; omega) (fun e => by have := (hr j e.symm).1; omega)
  exact ⟨(hn _ (by omega)).trans h1, h2.trans ⟨hg.size, fun j hj _ => hn j hj⟩, h3.grown hg (by have := h2.1; omega) (fun j e => by have := (hr j e).1; omega)⟩
 case assign =>
  intro l x W K hK
  gi_wp2
  exact hK
 case body =>
  rintro l pre x W ⟨hHW, hKp, hBW⟩ _
  have hsW := hKp.1
  obtain ⟨hz1, hz2, hz3, hz4, hz5⟩ := HZ.out
  have hQW : W.cell? ⟨w.heap.size + 1 + 1, 0, none⟩ = some (.pointer (some ⟨w.heap.size + 1, 0, none⟩)) := by
   rw [World.cell?_of_block (w := w5) (hKp.2 _ (by show w.heap.size + 1 + 1 < _; omega) (by show w.heap.size + 1 + 1 ≠ _; omega))]
   simp [World.cell?, HQ5.out]
  have hKW : W.heap[w.heap.size + 1]? = some (.cells (u32s kList) 98 (0, 0)) := (hKp.2 _ (by omega) (by omega)).trans HK5.out
  have hx := x.2
  obtain ⟨bl, hbl⟩ : ∃ bl, (p.take (64 * x.1 + 64)).drop (64 * x.1) = bl := ⟨_, rfl⟩
  have hbl64 : bl.length = 64 := by rw [← hbl, List.length_drop, List.length_take]; omega
  have hCW : (Kd.int .u8).C W (some ⟨g4, 64 * x.1, none⟩) bl.length bl := by
   have h1 := Kd.C_mid (lo := 64 * x.1) (hi := 64 * x.1 + 64) (c := p.length) (C_block (w1 := W) HC5.out (hKp.2 g4 (by omega) (by omega))) (by omega) (by omega) (Nat.le_refl _)
   rw [if_neg (by omega), hbl] at h1
   by_cases h0 : x.1 = 0
   · rw [h0] at h1 ⊢
     exact h1
   · have e : (Addr.mk g4 0 none).add (64 * x.1 * (Kd.int .u8).sz) = ⟨g4, 64 * x.1, none⟩ := by
      show (Addr.mk g4 0 none).add (64 * x.1 * 1) = _
      rw [Nat.mul_one, Addr.add, if_neg (by omega)]
      simp
     rw [Option.map_some, e] at h1
     exact h1
  obtain ⟨hc, hhc⟩ : ∃ hc, pre.foldl (fun h x => tblock h ((p.take (64 * x.1 + 64)).drop (64 * x.1))) h0List = hc := ⟨_, rfl⟩
  have hhc8 : hc.length = 8 := by
   rw [← hhc]
   clear hhc hHW
   have : ∀ (pre : List (Fin m)) (h : List Int), h.length = 8 → (pre.foldl (fun h x => tblock h ((p.take (64 * x.1 + 64)).drop (64 * x.1))) h).length = 8 := by
    intro pre
    induction pre with
    | nil => exact fun h e => e
    | cons y l ih => exact fun h e => ih _ (tblock_length _ _ e)
   exact this pre _ rfl
  rw [hhc] at hHW
  have T := impl_turnBlock.calls w.heap.size (w.heap.size + 1) ⟨g4, 64 * x.1, none⟩ 64 hc bl W hCW hbl64 hHW hKW hhc8 (by omega)
  have HT := Aside0.mk T
  have HE := Aside0.mk (And.intro hbl hhc)
  have HWA := Aside0.mk (And.intro hKp hBW)
  have HSW := Aside0.mk hsW
  clear T hbl hhc hKp hBW hCW hbl64 hHW hKW hhc8 hsW hx hz1 hz2 hz3 hz4 hz5
  gi_wp2_with (refine ⟨trivial, ?_⟩; gi_at_call 66; refine (CallsIn.inRound l (callsIn_wide.2 HT.out)).mono ?_; rintro e W' ⟨⟨v, rfl⟩, hH', hF'⟩)
  have kp : KpH w.heap.size w5.heap.size W W' := ⟨hF'.size, fun j hj hn => hF'.block j (by have := HSW.out; omega) hn⟩
  refine ⟨hF'.others.from _, kp, ?_, HWA.out.1.trans kp, HWA.out.2.trans (hF'.below (Nat.le_refl _) HWA.out.2.size)⟩
  rw [List.foldl_append, HE.out.2]
  show W'.heap[w.heap.size]? = some (.cells (u32s (tblock hc ((p.take (64 * x.1 + 64)).drop (64 * x.1)))) 81 (0, 0))
  rw [HE.out.1]
  exact hH'
 case done =>
  rintro D ys W hD rfl ⟨hHW, hKp, hBW⟩ hK
  rw [upto_fold (fun h i => tblock h ((p.take (64 * i + 64)).drop (64 * i))) h0List (Nat.le_refl m)] at hHW
  obtain ⟨x0, x1, x2, x3, x4, x5, x6, x7, hx⟩ := oct_of (dwords_length p m)
  replace hHW : W.heap[w.heap.size]? = some (.cells (u32s [x0, x1, x2, x3, x4, x5, x6, x7]) 81 (0, 0)) := by rw [← hx]; exact hHW
  obtain ⟨g0, g1, g2, g3, g4', g5, g6, g7⟩ := oct hHW
  have hHX := Aside0.mk hx
  have HBW := Aside0.mk hBW
  have HKD := Aside0.mk hK
  have HD := Aside0.mk hD
  clear hx hHW hKp hBW hK hD
  gi_wp2
  refine wpIn_wide.2 ?_
  go_loopw [6, 19] (fun v6 v19 wr => ∃ i : Nat, v19 = .int .i64 (i : Int) ∧ i ≤ 8 ∧ Aside0 (Kd.R (Kd.int .u8) 5 wr W.heap.size (fun _ => True) v6 (dbytes ([x0, x1, x2, x3, x4, x5, x6, x7].take i))) ∧ Aside0 (Below W.heap.size W wr)) (fun _ v19 _ => 8 - (intOf v19).toNat)
  case atStart => exact ⟨0, rfl, Nat.zero_le _, ⟨Kd.R_nil _ _ _ _ _⟩, ⟨Below.refl _ _⟩⟩
  case round =>
   obtain ⟨i, rfl, hi, HO, HB⟩ := hrel
   clear g0 g1 g2 g3 g4' g5 g6 g7
   by_cases hlt : i < 8
   ·
    obtain ⟨xx, hix, hbx⟩ : ∃ xx, (∀ W' : World, (Instr.index 81 (.agg #[.int .u32 x0, .int .u32 x1, .int .u32 x2, .int .u32 x3, .int .u32 x4, .int .u32 x5, .int .u32 x6, .int .u32 x7]) (.int .i64 (i : Int))).run Try.prog W' = .ok (.int .u32 xx) W') ∧ dbytes ([x0, x1, x2, x3, x4, x5, x6, x7].take (i + 1)) = dbytes ([x0, x1, x2, x3, x4, x5, x6, x7].take i) ++ [xx / 16777216 % 256, xx / 65536 % 256, xx / 256 % 256, xx % 256] := by
     match i, hlt with
     | 0, _ => exact ⟨x0, fun _ => by kernel_rfl, rfl⟩
     | 1, _ => exact ⟨x1, fun _ => by kernel_rfl, rfl⟩
     | 2, _ => exact ⟨x2, fun _ => by kernel_rfl, rfl⟩
     | 3, _ => exact ⟨x3, fun _ => by kernel_rfl, rfl⟩
     | 4, _ => exact ⟨x4, fun _ => by kernel_rfl, rfl⟩
     | 5, _ => exact ⟨x5, fun _ => by kernel_rfl, rfl⟩
     | 6, _ => exact ⟨x6, fun _ => by kernel_rfl, rfl⟩
     | 7, _ => exact ⟨x7, fun _ => by kernel_rfl, rfl⟩
    have b5 : (i : Int) < 8 := by omega
    have n5 : (0 : Int) ≤ (i : Int) := by omega
    obtain ⟨ys, hys⟩ : ∃ ys : List Int, [xx / 16777216 % 256, xx / 65536 % 256, xx / 256 % 256, xx % 256] = ys := ⟨_, rfl⟩
    obtain ⟨zs, hzs⟩ : ∃ zs, dbytes ([x0, x1, x2, x3, x4, x5, x6, x7].take i) = zs := ⟨_, rfl⟩
    have hzl : zs.length = 4 * i := by
     rw [← hzs]
     match i, hlt with
     | 0, _ => rfl
     | 1, _ => rfl
     | 2, _ => rfl
     | 3, _ => rfl
     | 4, _ => rfl
     | 5, _ => rfl
     | 6, _ => rfl
     | 7, _ => rfl
    rw [hys, hzs] at hbx
    rw [hzs] at HO
    have HBX := Aside0.mk hbx
    have HYS := Aside0.mk hys
    have HZL := Aside0.mk (show zs.length + 4 ≤ 40 by omega)
    clear hbx hys hzs hzl
    go_wp2_with (first
     | ((with_reducible refine gate_dst (N := 34) rfl ?_); refine Kd.R_lit (Kd.int .u8) (w0 := W) W.heap.size 5 ?hg (N := 34) ?hd (xs := ys) (inner := ys.map (Value.int .u8)) (ok := fun _ => True) (okp := fun _ => True) ?hr ?hp (fun _ hk => hk) trivial HB.out HB.out.size (by rw [← HYS.out]; simp) ?_; (case hd => rfl); (case hg => rfl); (case hr => rw [← HYS.out]; first | (go_simp; done) | (go_simp; rfl)); (case hp => exact reps_u8 _ _ _ ys); intro v1 wa ho1 hb1 hg1 hn1; have HOa := Aside0.mk (Kd.R_below HO.out ((Below.refl _ _).grown hg1 (Nat.le_refl _) (fun _ e => by cases e))); have HO1 := Aside0.mk ho1; have HB1 := Aside0.mk hb1; obtain ⟨A1, c1, e1⟩ := Kd.R_slice ho1; subst e1; clear ho1 hb1 hg1 hn1)
     | ((with_reducible refine gate_builtin (b := .append) (xs := #[.tmp 22, .tmp 34]) rfl ?_); at_builtin; refine Kd.R_append_rows (Kd.int .u8) (w0 := W) W.heap.size rfl (.tmp 22) (.tmp 34) 22 5 (.int .u8 0) 1 rfl Try.underlying22 info5 rfl (by decide) (by omega) u6 zs ys _ _ _ (fun _ => True) (fun _ => False) rfl rfl ?aO ?aR (fun _ _ h => h) (fun _ h => h.elim) ?aF ?aB ?aS ?aL ?_; (case aR => exact (Kd.R_reads' HO1.out).2.2); (case aB => exact HB1.out); (case aF => exact (fun _ _ => trivial)); (case aO => exact HOa.out); (case aS => exact HB1.out.size); (case aL => have := HZL.out; rw [← HYS.out]; simp; omega); intro v2 wb ho2 hb2 hg2 hat2))
    refine ⟨⟨i + 1, by go_num, by omega, ⟨by rw [HBX.out]; exact ho2⟩, ⟨hb2⟩⟩, ?_⟩
    simp [intOf]; omega
   ·
    obtain rfl : i = 8 := by omega
    have hcv := own_string (P := Try.prog) Try.underlying22 Try.underlying5 Try.underlying9 (Kd.own_of_R HO.out)
    go_wp2
    refine wpIn_wide.2 ?_
    go_wp2
    have hD : D < W.heap.size := (Array.getElem?_eq_some_iff.1 HKD.out).1
    have hK2 := (HB.out.block D hD).trans HKD.out
    refine ⟨by simp, .inl ⟨_, _, rfl, run_takeDeferred hK2, ?_⟩⟩
    refine ⟨_, results_tmp rfl _ _ _, ?_, ?_⟩
    · rw [← HR.out, show p.length / 64 = m by have := HZ.out; omega, hHX.out]
      rfl
    · have hz := HZ.out
      have hd := HD.out
      exact (HBW.out.trans (HB.out.mono HBW.out.size)).trans (belowK_b (w := w) (Nat.le_refl _) wr D _ _ (by omega) hK2 rfl rfl)
 case stop =>
  rintro D c pre W _ _ h _
  exact h.elim
end Go.Proofs.Ytgmfhchhbidlnaa.P
