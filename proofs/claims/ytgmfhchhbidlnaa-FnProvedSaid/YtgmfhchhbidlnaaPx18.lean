import Derived.Test.YtgmfhchhbidlnaaPx0
import Derived.Test.YtgmfhchhbidlnaaPx10
import Derived.Test.YtgmfhchhbidlnaaPx1
import Derived.Test.YtgmfhchhbidlnaaPx6
namespace Go.Proofs.Ytgmfhchhbidlnaa.P
open Go.RowKit Go.Proofs.YtgmfhchhbidlnaaW.PrintWords Go.Proofs.YtgmfhchhbidlnaaW.PrintLast Go.Proofs.YtgmfhchhbidlnaaW.PrintMore
attribute [local go_sem] max2_int min2_int max_two min_two max_three min_three max_four min_four
set_option linter.unusedVariables false
set_option maxHeartbeats 8000000
set_option maxRecDepth 100000
set_option linter.unusedSimpArgs false
def impl_IsClash.f (k : Nat) (a0 : ByteArray) (a1 : ByteArray) (a2 : Int) : Option (Bool) :=
 if a0.toList = a1.toList then some false else if 0 ≤ a2 ∧ a2 ≤ 32 then (if a0.size ≤ 9223372036854775807 ∧ a1.size ≤ 9223372036854775807 then
  (impl_Digest.f k (bytesOf a0)).bind fun d0 => (impl_Digest.f k (bytesOf a1)).bind fun d1 => if d0.size = 32 ∧ d1.size = 32 then some ((d0.extract 0 a2.toNat).toList == (d1.extract 0 a2.toNat).toList) else none else none) else some false
theorem impl_IsClash.dig (k : Nat) (s d : ByteArray) (A : Option Addr) (c : Nat) (w : World) (hC : (Kd.int .u8).C w A (bytesOf s).length (bytesOf s)) (hc : (bytesOf s).length ≤ c) (h : impl_Digest.f k (bytesOf s) = some d) :
 Calls Try.prog 45 #[.slice A s.size c] w fun e w' => e = .returned (.string d) ∧ Below w.heap.size w w' := by
 rw [← bytesOf_length s]
 exact impl_Digest.calls k A c (bytesOf s) d w hC hc h
theorem impl_IsClash.conv_step {P : Program} {ops : Array Oper} {o : Oper} {a : Act} {Q : Exit → Act → World → Prop} {Kc : Act → World → Prop} {W : World} (hw : Region.wanted o (yielded ops a.tmps) = true) (src dst e : TypeId) (x : Operand) (s : ByteArray) (ho : o.op = .convert src dst x) (hx : a.eval x = .string s)
 (hs : P.underlying src = some .string) (hd : P.underlying dst = some (.slice e)) (he : P.underlying e = some (.int .u8)) (hl : s.size ≤ 9223372036854775807)
 (h : ∀ g c w1, Kd.C (Kd.int .u8) w1 (some ⟨g, 0, none⟩) (bytesOf s).length (bytesOf s) → (bytesOf s).length ≤ c → Below W.heap.size W w1 → Kc (a.put o.dst (.slice (some ⟨g, 0, none⟩) s.size c)) w1) :
 if Region.wanted o (yielded ops a.tmps) = true then Oper.wp P o a W Kc Q else Kc (a.put o.dst undef) W := by
 have hlen : (bytesOf s).length = s.size := bytesOf_length s
 refine event_step hw (w1 := Lib.bytesWorld W e s) (v := .slice (some ⟨W.heap.size, 0, none⟩) s.size (grownCap W s.size 0 e)) ?_ ?_
 ·
  have hr := Lib.run_convert_string_bytes (P := P) W src dst e s hs hd he
  unfold execOp
  rw [ho]
  simp only [hx]
  first | (simp [go_sem, hr]; done) | (simp [hr, Result.andThen]; done)
 ·
  refine h _ _ _ ⟨rfl, by omega, fun _ => ⟨_, rfl, fun j p hp => ⟨[.int .u8 p], rfl, rfl, fun i u hu => ?_⟩⟩⟩ ?_ ⟨rfl, rfl, rfl, ?_, fun k hk => Lib.bytesWorld_at_old W e s k hk⟩
  ·
   have hj : j < (bytesOf s).length := (List.getElem?_eq_some_iff.1 hp).1
   obtain ⟨rfl, rfl⟩ : i = 0 ∧ u = .int .u8 p := by
    cases i with
    | zero => simpa using hu.symm
    | succ i => simp at hu
   have hc := Lib.bytesWorld_cell W e s j (by omega)
   have hpj : p = ((s.data.toList.getD j 0).toNat : Int) := by
    have h1 := hp
    rw [bytesOf, List.getElem?_map] at h1
    obtain ⟨b, hb, rfl⟩ := Option.map_eq_some_iff.1 h1
    rw [List.getD_eq_getElem?_getD, hb]
    rfl
   have ha : (Addr.mk W.heap.size 0 none).add (j * (Kd.int .u8).sz + 0) = ⟨W.heap.size, j, none⟩ := by
    show (Addr.mk W.heap.size 0 none).add (j * 1 + 0) = _
    rw [Nat.mul_one, Nat.add_zero]
    unfold Addr.add
    split
    · next h0 => rw [h0]
    · simp
   rw [ha, hpj]
   exact hc
  · rw [hlen]
    exact grownCap_ge _ _ _ _
  · rw [Lib.bytesWorld_size]
    omega
def impl_IsClash.T1 : Bool × List (List Nat × List Nat) := (true, [([], []), ([], []), ([0, 1], [0, 1]), ([2], [2]), ([3], [3]), ([4, 3, 3], [3, 4]), ([3, 5], [3, 5]), ([6, 5], [6]), ([7], [7]), ([8, 7], [7, 8]), ([9, 7, 7], [7, 9]), ([7], [7]), ([10, 11, 7], [7, 10, 11]), ([7], [7]), ([13, 7], [7, 13]), ([14, 10, 7], [7, 14]), ([7], [7]), ([15, 16, 7], [7, 15, 16]), ([12, 17, 7], [7, 12, 17]), ([7, 18], [7, 18]), ([19, 15, 0, 1, 2, 3, 4, 5, 6, 7, 8, 9, 10, 11, 12, 13, 14, 15, 16, 17, 18, 19], [19])])
def impl_IsClash.B1 : List Nat := [0, 0, 3, 7, 15, 31, 63, 127, 255, 511, 1023, 255, 4095, 255, 8447, 26623, 255, 124927, 262143, 524287, 1048575]
theorem impl_IsClash.tab1 : rtab .any (opsOf Try.f33 1) = impl_IsClash.T1 := by kernel_rfl
theorem impl_IsClash.bits1 : waitsOk impl_IsClash.T1.2 impl_IsClash.B1 = true := by kernel_rfl
theorem impl_IsClash.calls (k : Nat) (a0 : ByteArray) (a1 : ByteArray) (a2 : Int) (r : Bool) (w : World) (h : impl_IsClash.f k a0 a1 a2 = some r) :
 Calls Try.prog 33 #[.string a0, .string a1, .int .i64 a2] w fun e w' => e = .returned (.bool r) ∧ Below w.heap.size w w' := by
 unfold impl_IsClash.f at h
 by_cases c : a0.toList = a1.toList
 ·
  rw [if_pos c] at h
  obtain rfl := Option.some.inj h
  have aF : (a0.toList == a1.toList) = true := beq_iff_eq.mpr c
  have aE : (a0.toList != a1.toList) = false := bne_eq_false_iff_eq.mpr c
  clear c h
  go_enter Try.func33, Try.ntmps33
  go_wp2
  have HB := q_ (below_drew1 (Below.refl w.heap.size w))
  refine sr_ (fun w' => True) [] impl_IsClash.tab1 impl_IsClash.bits1 trivial (fun hD hT hW => ?_)
  generalize w.drew = w0 at HB hD ⊢
  clear hD
  refine o_ 0 7 hT ?_; refine o_ 1 8 hT ?_; refine o_ 2 9 hT ?_; refine o_ 3 10 hT ?_; refine u_ 4 11 hT ?_; refine u_ 5 12 hT ?_; refine o_ 6 13 hT ?_; refine o_ 7 14 hT ?_; refine u_ 8 15 hT ?_; refine u_ 9 16 hT ?_; refine u_ 10 17 hT ?_; refine u_ 11 18 hT ?_; refine u_ 12 19 hT ?_; refine u_ 13 20 hT ?_; refine u_ 14 21 hT ?_; refine u_ 15 22 hT ?_; refine u_ 16 23 hT ?_; refine u_ 17 24 hT ?_; refine u_ 18 25 hT ?_; refine o_ 19 26 hT ?_; refine o_ 20 6 hT ?_
  refine done_ (done_of hT.out (by kernel_rfl)) ?_
  try go_wp2
  go_ret
  exact ⟨by first | rfl | (simp; done) | simp [*], HB.out⟩
 ·
  rw [if_neg c] at h
  have aF : (a0.toList == a1.toList) = false := beq_eq_false_iff_ne.mpr c
  have aE : (a0.toList != a1.toList) = true := bne_iff_ne.mpr c
  clear c
  by_cases c2 : 0 ≤ a2 ∧ a2 ≤ 32
  ·
   rw [if_pos c2] at h
   by_cases c3 : a0.size ≤ 9223372036854775807 ∧ a1.size ≤ 9223372036854775807
   rotate_left
   ·
    rw [if_neg c3] at h; cases h
   rw [if_pos c3] at h
   obtain ⟨d0, h0, h⟩ := Option.bind_eq_some_iff.mp h
   obtain ⟨d1, h1, h⟩ := Option.bind_eq_some_iff.mp h
   by_cases c4 : d0.size = 32 ∧ d1.size = 32
   rotate_left
   ·
    rw [if_neg c4] at h; cases h
   rw [if_pos c4] at h
   have hin : impl_inRange.f a2 0 32 = some true := by
    unfold impl_inRange.f
    by_cases c5 : a2 ≥ 0
    rotate_left
    ·
     first | (exfalso; omega) | rw [if_neg c5]
    rw [if_pos c5]
    congr 1
    first | exact decide_eq_true (by omega) | exact decide_eq_false (by omega)
   have HI := Aside0.mk hin
   clear hin
   obtain rfl := Option.some.inj h
   have H0 := Aside0.mk h0
   have H1 := Aside0.mk h1
   have C3 := Aside0.mk c3
   have q1 : (0 : Int) ≤ a2 := c2.1
   have q2 : a2 ≤ (d0.size : Int) := by omega
   have q3 : a2 ≤ (d1.size : Int) := by omega
   clear h h0 h1 c2 c3 c4
   go_enter Try.func33, Try.ntmps33
   go_wp2
   have HB := q_ (below_drew1 (Below.refl w.heap.size w))
   refine sr_ (fun w' => True) [] impl_IsClash.tab1 impl_IsClash.bits1 trivial (fun hD hT hW => ?_)
   generalize w.drew = w0 at HB hD ⊢
   clear hD
   refine o_ 0 7 hT ?_; refine o_ 1 8 hT ?_; refine o_ 2 9 hT ?_; refine o_ 3 10 hT ?_; refine o_ 4 11 hT ?_
   refine on_ 5 (some 12) (bq_ 6 15) hT (fun K hK => ?_)
   refine goes_ Try.func22 (by kernel_rfl) rfl #[.int .i64 a2, .int .i64 0, .int .i64 32] (by rfl) rfl rfl (by (try simp only [List.map_toArray, List.map_cons, List.map_nil]); first | done | rfl) ?_
   with_reducible refine (impl_inRange.calls a2 0 32 true _ HI.out).mono ?_
   rintro e w' ⟨rfl, ⟨nd, rfl⟩⟩
   refine ⟨_, rfl, ?_⟩
   refine hK.out _ _ trivial (fun hD => ?_)
   clear hK K
   refine nn_ ?_
   have HBn := q_ (pw_below_drewN HB.out nd)
   clear HB
   have HB := HBn
   clear HBn
   generalize World.drewN _ nd = aH at HB hD ⊢
   clear hD
   refine o_ 6 13 hT ?_; refine o_ 7 14 hT ?_; refine o_ 8 15 hT ?_; refine o_ 11 18 hT ?_; refine o_ 13 20 hT ?_; refine o_ 16 23 hT ?_
   refine two_ (i := 9) (j := 14) (Ni := some 16) (Nj := some 21) (br_ [10, 1, 1, 1, 1, 2, 1, 4]) (br_ [9, 2, 1, 1, 2, 1, 1, 4]) rfl rfl rfl rfl (two_of hT.out (by kernel_rfl)) (by decide) (by decide) (fun K hK => ?_) (fun K hK => ?_)
   ·
    skip
    refine impl_IsClash.conv_step (by rfl) 9 22 5 _ a0 rfl rfl Try.underlying9 Try.underlying22 Try.underlying5 C3.out.1 ?_
    intro g0 c0 wv hC hl hb
    refine hK.out _ _ trivial (fun hD => ?_)
    clear hK K hD
    refine nn_ ?_
    have HBn := q_ (below_step HB.out hb)
    clear HB
    have HB := HBn
    clear HBn
    have aB := Aside0.mk hC
    have aD := Aside0.mk hl
    clear hC hl hb
    refine two_ (i := 10) (j := 14) (Ni := some 17) (Nj := some 21) (br_ [12, 1, 1, 2, 1, 4]) (br_ [10, 1, 1, 1, 2, 1, 1, 4]) rfl rfl rfl rfl (two_of hT.out (by kernel_rfl)) (by decide) (by decide) (fun K hK => ?_) (fun K hK => ?_)
    ·
     skip
     refine goes_ Try.func45 (by kernel_rfl) rfl #[.slice (some ⟨g0, 0, none⟩) a0.size c0] (by rfl) rfl rfl (by (try simp only [List.map_toArray, List.map_cons, List.map_nil]); first | done | rfl) ?_
     with_reducible refine (impl_IsClash.dig k a0 d0 _ _ _ aB.out aD.out H0.out).mono ?_
     rintro e wv ⟨rfl, hb⟩
     refine ⟨_, rfl, ?_⟩
     refine hK.out _ _ trivial (fun hD => ?_)
     clear hK K hD aB aD
     refine nn_ ?_
     have HBn := q_ (below_step HB.out hb)
     clear HB
     have HB := HBn
     clear HBn hb
     refine o_ 12 19 hT ?_
     refine on_ 14 (some 21) (br_ [15, 1, 1, 4]) hT (fun K hK => ?_)
     refine impl_IsClash.conv_step (by rfl) 9 22 5 _ a1 rfl rfl Try.underlying9 Try.underlying22 Try.underlying5 C3.out.2 ?_
     intro g1 c1 wv hC hl hb
     refine hK.out _ _ trivial (fun hD => ?_)
     clear hK K hD
     refine nn_ ?_
     have HBn := q_ (below_step HB.out hb)
     clear HB
     have HB := HBn
     clear HBn
     have aA := Aside0.mk hC
     have aC := Aside0.mk hl
     clear hC hl hb
     refine on_ 15 (some 22) (bq_ 17 4) hT (fun K hK => ?_)
     refine goes_ Try.func45 (by kernel_rfl) rfl #[.slice (some ⟨g1, 0, none⟩) a1.size c1] (by rfl) rfl rfl (by (try simp only [List.map_toArray, List.map_cons, List.map_nil]); first | done | rfl) ?_
     with_reducible refine (impl_IsClash.dig k a1 d1 _ _ _ aA.out aC.out H1.out).mono ?_
     rintro e wv ⟨rfl, hb⟩
     refine ⟨_, rfl, ?_⟩
     refine hK.out _ _ trivial (fun hD => ?_)
     clear hK K hD aA aC
     refine nn_ ?_
     have HBn := q_ (below_step HB.out hb)
     clear HB
     have HB := HBn
     clear HBn hb
     refine o_ 17 24 hT ?_; refine o_ 18 25 hT ?_; refine o_ 19 26 hT ?_; refine o_ 20 6 hT ?_
     refine done_ (done_of hT.out (by kernel_rfl)) ?_
     try go_wp2
     go_ret
     exact ⟨by first | rfl | (simp; done) | simp [*], HB.out⟩
    ·
     skip
     refine impl_IsClash.conv_step (by rfl) 9 22 5 _ a1 rfl rfl Try.underlying9 Try.underlying22 Try.underlying5 C3.out.2 ?_
     intro g1 c1 wv hC hl hb
     refine hK.out _ _ trivial (fun hD => ?_)
     clear hK K hD
     refine nn_ ?_
     have HCn := q_ (Kd.C_below aB.out hb)
     clear aB
     have aB := HCn
     clear HCn
     have HBn := q_ (below_step HB.out hb)
     clear HB
     have HB := HBn
     clear HBn
     have aA := Aside0.mk hC
     have aC := Aside0.mk hl
     clear hC hl hb
     refine on_ 10 (some 17) (br_ [12, 1, 2, 1, 1, 4]) hT (fun K hK => ?_)
     refine goes_ Try.func45 (by kernel_rfl) rfl #[.slice (some ⟨g0, 0, none⟩) a0.size c0] (by rfl) rfl rfl (by (try simp only [List.map_toArray, List.map_cons, List.map_nil]); first | done | rfl) ?_
     with_reducible refine (impl_IsClash.dig k a0 d0 _ _ _ aB.out aD.out H0.out).mono ?_
     rintro e wv ⟨rfl, hb⟩
     refine ⟨_, rfl, ?_⟩
     refine hK.out _ _ trivial (fun hD => ?_)
     clear hK K hD aB aD
     refine nn_ ?_
     have HCn := q_ (Kd.C_below aA.out hb)
     clear aA
     have aA := HCn
     clear HCn
     have HBn := q_ (below_step HB.out hb)
     clear HB
     have HB := HBn
     clear HBn hb
     refine o_ 12 19 hT ?_
     refine on_ 15 (some 22) (bq_ 17 4) hT (fun K hK => ?_)
     refine goes_ Try.func45 (by kernel_rfl) rfl #[.slice (some ⟨g1, 0, none⟩) a1.size c1] (by rfl) rfl rfl (by (try simp only [List.map_toArray, List.map_cons, List.map_nil]); first | done | rfl) ?_
     with_reducible refine (impl_IsClash.dig k a1 d1 _ _ _ aA.out aC.out H1.out).mono ?_
     rintro e wv ⟨rfl, hb⟩
     refine ⟨_, rfl, ?_⟩
     refine hK.out _ _ trivial (fun hD => ?_)
     clear hK K hD aA aC
     refine nn_ ?_
     have HBn := q_ (below_step HB.out hb)
     clear HB
     have HB := HBn
     clear HBn hb
     refine o_ 17 24 hT ?_; refine o_ 18 25 hT ?_; refine o_ 19 26 hT ?_; refine o_ 20 6 hT ?_
     refine done_ (done_of hT.out (by kernel_rfl)) ?_
     try go_wp2
     go_ret
     exact ⟨by first | rfl | (simp; done) | simp [*], HB.out⟩
   ·
    skip
    refine impl_IsClash.conv_step (by rfl) 9 22 5 _ a1 rfl rfl Try.underlying9 Try.underlying22 Try.underlying5 C3.out.2 ?_
    intro g1 c1 wv hC hl hb
    refine hK.out _ _ trivial (fun hD => ?_)
    clear hK K hD
    refine nn_ ?_
    have HBn := q_ (below_step HB.out hb)
    clear HB
    have HB := HBn
    clear HBn
    have aA := Aside0.mk hC
    have aC := Aside0.mk hl
    clear hC hl hb
    refine on_ 9 (some 16) (br_ [10, 1, 1, 1, 2, 1, 1, 4]) hT (fun K hK => ?_)
    refine impl_IsClash.conv_step (by rfl) 9 22 5 _ a0 rfl rfl Try.underlying9 Try.underlying22 Try.underlying5 C3.out.1 ?_
    intro g0 c0 wv hC hl hb
    refine hK.out _ _ trivial (fun hD => ?_)
    clear hK K hD
    refine nn_ ?_
    have HCn := q_ (Kd.C_below aA.out hb)
    clear aA
    have aA := HCn
    clear HCn
    have HBn := q_ (below_step HB.out hb)
    clear HB
    have HB := HBn
    clear HBn
    have aB := Aside0.mk hC
    have aD := Aside0.mk hl
    clear hC hl hb
    refine on_ 10 (some 17) (br_ [12, 1, 2, 1, 1, 4]) hT (fun K hK => ?_)
    refine goes_ Try.func45 (by kernel_rfl) rfl #[.slice (some ⟨g0, 0, none⟩) a0.size c0] (by rfl) rfl rfl (by (try simp only [List.map_toArray, List.map_cons, List.map_nil]); first | done | rfl) ?_
    with_reducible refine (impl_IsClash.dig k a0 d0 _ _ _ aB.out aD.out H0.out).mono ?_
    rintro e wv ⟨rfl, hb⟩
    refine ⟨_, rfl, ?_⟩
    refine hK.out _ _ trivial (fun hD => ?_)
    clear hK K hD aB aD
    refine nn_ ?_
    have HCn := q_ (Kd.C_below aA.out hb)
    clear aA
    have aA := HCn
    clear HCn
    have HBn := q_ (below_step HB.out hb)
    clear HB
    have HB := HBn
    clear HBn hb
    refine o_ 12 19 hT ?_
    refine on_ 15 (some 22) (bq_ 17 4) hT (fun K hK => ?_)
    refine goes_ Try.func45 (by kernel_rfl) rfl #[.slice (some ⟨g1, 0, none⟩) a1.size c1] (by rfl) rfl rfl (by (try simp only [List.map_toArray, List.map_cons, List.map_nil]); first | done | rfl) ?_
    with_reducible refine (impl_IsClash.dig k a1 d1 _ _ _ aA.out aC.out H1.out).mono ?_
    rintro e wv ⟨rfl, hb⟩
    refine ⟨_, rfl, ?_⟩
    refine hK.out _ _ trivial (fun hD => ?_)
    clear hK K hD aA aC
    refine nn_ ?_
    have HBn := q_ (below_step HB.out hb)
    clear HB
    have HB := HBn
    clear HBn hb
    refine o_ 17 24 hT ?_; refine o_ 18 25 hT ?_; refine o_ 19 26 hT ?_; refine o_ 20 6 hT ?_
    refine done_ (done_of hT.out (by kernel_rfl)) ?_
    try go_wp2
    go_ret
    exact ⟨by first | rfl | (simp; done) | simp [*], HB.out⟩
  ·
   rw [if_neg c2] at h
   obtain rfl := Option.some.inj h
   have hin : impl_inRange.f a2 0 32 = some false := by
    unfold impl_inRange.f
    by_cases c5 : a2 ≥ 0
    rotate_left
    ·
     first | (exfalso; omega) | rw [if_neg c5]
    rw [if_pos c5]
    congr 1
    first | exact decide_eq_true (by omega) | exact decide_eq_false (by omega)
   have HI := Aside0.mk hin
   clear hin
   clear h c2
   go_enter Try.func33, Try.ntmps33
   go_wp2
   have HB := q_ (below_drew1 (Below.refl w.heap.size w))
   refine sr_ (fun w' => True) [] impl_IsClash.tab1 impl_IsClash.bits1 trivial (fun hD hT hW => ?_)
   generalize w.drew = w0 at HB hD ⊢
   clear hD
   refine o_ 0 7 hT ?_; refine o_ 1 8 hT ?_; refine o_ 2 9 hT ?_; refine o_ 3 10 hT ?_; refine o_ 4 11 hT ?_
   refine on_ 5 (some 12) (bq_ 6 15) hT (fun K hK => ?_)
   refine goes_ Try.func22 (by kernel_rfl) rfl #[.int .i64 a2, .int .i64 0, .int .i64 32] (by rfl) rfl rfl (by (try simp only [List.map_toArray, List.map_cons, List.map_nil]); first | done | rfl) ?_
   with_reducible refine (impl_inRange.calls a2 0 32 false _ HI.out).mono ?_
   rintro e w' ⟨rfl, ⟨nd, rfl⟩⟩
   refine ⟨_, rfl, ?_⟩
   refine hK.out _ _ trivial (fun hD => ?_)
   clear hK K
   refine nn_ ?_
   have HBn := q_ (pw_below_drewN HB.out nd)
   clear HB
   have HB := HBn
   clear HBn
   generalize World.drewN _ nd = aG at HB hD ⊢
   clear hD
   refine o_ 6 13 hT ?_; refine o_ 7 14 hT ?_; refine u_ 8 15 hT ?_; refine u_ 9 16 hT ?_; refine u_ 10 17 hT ?_; refine u_ 11 18 hT ?_; refine u_ 12 19 hT ?_; refine u_ 13 20 hT ?_; refine u_ 14 21 hT ?_; refine u_ 15 22 hT ?_; refine u_ 16 23 hT ?_; refine u_ 17 24 hT ?_; refine u_ 18 25 hT ?_; refine o_ 19 26 hT ?_; refine o_ 20 6 hT ?_
   refine done_ (done_of hT.out (by kernel_rfl)) ?_
   try go_wp2
   go_ret
   exact ⟨by first | rfl | (simp; done) | simp [*], HB.out⟩
section
def spec_IsClash.f (k : Nat) (a0 : ByteArray) (a1 : ByteArray) (a2 : Int) : Option (Bool) :=
 if a0.toList = a1.toList then some false else if 0 ≤ a2 ∧ a2 ≤ 32 then (if a0.size ≤ 9223372036854775807 ∧ a1.size ≤ 9223372036854775807 then
  (spec_Digest.f k (bytesOf a0)).bind fun d0 => (spec_Digest.f k (bytesOf a1)).bind fun d1 => if d0.size = 32 ∧ d1.size = 32 then some ((d0.extract 0 a2.toNat).toList == (d1.extract 0 a2.toNat).toList) else none else none) else some false
theorem spec_IsClash.dig (k : Nat) (s d : ByteArray) (A : Option Addr) (c : Nat) (w : World) (hC : (Kd.int .u8).C w A (bytesOf s).length (bytesOf s)) (hc : (bytesOf s).length ≤ c) (h : spec_Digest.f k (bytesOf s) = some d) :
 Calls Try.prog 51 #[.slice A s.size c] w fun e w' => e = .returned (.string d) ∧ Below w.heap.size w w' := by
 rw [← bytesOf_length s]
 exact spec_Digest.calls k A c (bytesOf s) d w hC hc h
theorem spec_IsClash.conv_step {P : Program} {ops : Array Oper} {o : Oper} {a : Act} {Q : Exit → Act → World → Prop} {Kc : Act → World → Prop} {W : World} (hw : Region.wanted o (yielded ops a.tmps) = true) (src dst e : TypeId) (x : Operand) (s : ByteArray) (ho : o.op = .convert src dst x) (hx : a.eval x = .string s)
 (hs : P.underlying src = some .string) (hd : P.underlying dst = some (.slice e)) (he : P.underlying e = some (.int .u8)) (hl : s.size ≤ 9223372036854775807)
 (h : ∀ g c w1, Kd.C (Kd.int .u8) w1 (some ⟨g, 0, none⟩) (bytesOf s).length (bytesOf s) → (bytesOf s).length ≤ c → Below W.heap.size W w1 → Kc (a.put o.dst (.slice (some ⟨g, 0, none⟩) s.size c)) w1) :
 if Region.wanted o (yielded ops a.tmps) = true then Oper.wp P o a W Kc Q else Kc (a.put o.dst undef) W := by
 have hlen : (bytesOf s).length = s.size := bytesOf_length s
 refine event_step hw (w1 := Lib.bytesWorld W e s) (v := .slice (some ⟨W.heap.size, 0, none⟩) s.size (grownCap W s.size 0 e)) ?_ ?_
 ·
  have hr := Lib.run_convert_string_bytes (P := P) W src dst e s hs hd he
  unfold execOp
  rw [ho]
  simp only [hx]
  first | (simp [go_sem, hr]; done) | (simp [hr, Result.andThen]; done)
 ·
  refine h _ _ _ ⟨rfl, by omega, fun _ => ⟨_, rfl, fun j p hp => ⟨[.int .u8 p], rfl, rfl, fun i u hu => ?_⟩⟩⟩ ?_ ⟨rfl, rfl, rfl, ?_, fun k hk => Lib.bytesWorld_at_old W e s k hk⟩
  ·
   have hj : j < (bytesOf s).length := (List.getElem?_eq_some_iff.1 hp).1
   obtain ⟨rfl, rfl⟩ : i = 0 ∧ u = .int .u8 p := by
    cases i with
    | zero => simpa using hu.symm
    | succ i => simp at hu
   have hc := Lib.bytesWorld_cell W e s j (by omega)
   have hpj : p = ((s.data.toList.getD j 0).toNat : Int) := by
    have h1 := hp
    rw [bytesOf, List.getElem?_map] at h1
    obtain ⟨b, hb, rfl⟩ := Option.map_eq_some_iff.1 h1
    rw [List.getD_eq_getElem?_getD, hb]
    rfl
   have ha : (Addr.mk W.heap.size 0 none).add (j * (Kd.int .u8).sz + 0) = ⟨W.heap.size, j, none⟩ := by
    show (Addr.mk W.heap.size 0 none).add (j * 1 + 0) = _
    rw [Nat.mul_one, Nat.add_zero]
    unfold Addr.add
    split
    · next h0 => rw [h0]
    · simp
   rw [ha, hpj]
   exact hc
  · rw [hlen]
    exact grownCap_ge _ _ _ _
  · rw [Lib.bytesWorld_size]
    omega
def spec_IsClash.T1 : Bool × List (List Nat × List Nat) := (true, [([], []), ([0], [0]), ([1, 1], [1]), ([2], [2]), ([2], [2]), ([3, 4, 2], [2, 3, 4]), ([2, 5], [2, 5]), ([6, 2], [6]), ([7], [7]), ([8, 7], [7, 8]), ([9, 7, 7], [7, 9]), ([7], [7]), ([10, 11, 7], [7, 10, 11]), ([7], [7]), ([13, 7], [7, 13]), ([14, 10, 7], [7, 14]), ([7], [7]), ([15, 16, 7], [7, 15, 16]), ([12, 17, 7], [7, 12, 17]), ([7, 18], [7, 18]), ([19, 15, 0, 1, 2, 3, 4, 5, 6, 7, 8, 9, 10, 11, 12, 13, 14, 15, 16, 17, 18, 19], [19])])
def spec_IsClash.B1 : List Nat := [0, 1, 3, 7, 7, 31, 63, 127, 255, 511, 1023, 255, 4095, 255, 8447, 26623, 255, 124927, 262143, 524287, 1048575]
theorem spec_IsClash.tab1 : rtab .any (opsOf Try.f34 1) = spec_IsClash.T1 := by kernel_rfl
theorem spec_IsClash.bits1 : waitsOk spec_IsClash.T1.2 spec_IsClash.B1 = true := by kernel_rfl
theorem spec_IsClash.calls (k : Nat) (a0 : ByteArray) (a1 : ByteArray) (a2 : Int) (r : Bool) (w : World) (h : spec_IsClash.f k a0 a1 a2 = some r) :
 Calls Try.prog 34 #[.string a0, .string a1, .int .i64 a2] w fun e w' => e = .returned (.bool r) ∧ Below w.heap.size w w' := by
 unfold spec_IsClash.f at h
 by_cases c : a0.toList = a1.toList
 ·
  rw [if_pos c] at h
  obtain rfl := Option.some.inj h
  have aF : (a0.toList == a1.toList) = true := beq_iff_eq.mpr c
  have aE : (a0.toList != a1.toList) = false := bne_eq_false_iff_eq.mpr c
  clear c h
  by_cases c2 : 0 ≤ a2 ∧ a2 ≤ 32
  ·
   skip
   have hin : spec_l1In.f a2 0 32 = some true := by
    unfold spec_l1In.f
    by_cases c5 : a2 ≥ 0
    rotate_left
    ·
     first | (exfalso; omega) | rw [if_neg c5]
    rw [if_pos c5]
    congr 1
    first | exact decide_eq_true (by omega) | exact decide_eq_false (by omega)
   have HI := Aside0.mk hin
   clear hin
   clear c2
   go_enter Try.func34, Try.ntmps34
   go_wp2
   have HB := q_ (below_drew1 (Below.refl w.heap.size w))
   refine sr_ (fun w' => True) [] spec_IsClash.tab1 spec_IsClash.bits1 trivial (fun hD hT hW => ?_)
   generalize w.drew = w0 at HB hD ⊢
   clear hD
   refine o_ 0 7 hT ?_
   refine on_ 1 (some 8) (bq_ 2 19) hT (fun K hK => ?_)
   refine goes_ Try.func28 (by kernel_rfl) rfl #[.int .i64 a2, .int .i64 0, .int .i64 32] (by rfl) rfl rfl (by (try simp only [List.map_toArray, List.map_cons, List.map_nil]); first | done | rfl) ?_
   with_reducible refine (spec_l1In.calls a2 0 32 true _ HI.out).mono ?_
   rintro e w' ⟨rfl, ⟨nd, rfl⟩⟩
   refine ⟨_, rfl, ?_⟩
   refine hK.out _ _ trivial (fun hD => ?_)
   clear hK K
   refine nn_ ?_
   have HBn := q_ (pw_below_drewN HB.out nd)
   clear HB
   have HB := HBn
   clear HBn
   generalize World.drewN _ nd = aJ at HB hD ⊢
   clear hD
   refine o_ 2 9 hT ?_; refine o_ 3 10 hT ?_; refine o_ 4 11 hT ?_; refine o_ 5 12 hT ?_; refine o_ 6 13 hT ?_; refine o_ 7 14 hT ?_; refine u_ 8 15 hT ?_; refine u_ 9 16 hT ?_; refine u_ 10 17 hT ?_; refine u_ 11 18 hT ?_; refine u_ 12 19 hT ?_; refine u_ 13 20 hT ?_; refine u_ 14 21 hT ?_; refine u_ 15 22 hT ?_; refine u_ 16 23 hT ?_; refine u_ 17 24 hT ?_; refine u_ 18 25 hT ?_; refine o_ 19 26 hT ?_; refine o_ 20 6 hT ?_
   refine done_ (done_of hT.out (by kernel_rfl)) ?_
   try go_wp2
   go_ret
   exact ⟨by first | rfl | (simp; done) | simp [*], HB.out⟩
  skip
  have hin : spec_l1In.f a2 0 32 = some false := by
   unfold spec_l1In.f
   by_cases c5 : a2 ≥ 0
   rotate_left
   ·
    first | (exfalso; omega) | rw [if_neg c5]
   rw [if_pos c5]
   congr 1
   first | exact decide_eq_true (by omega) | exact decide_eq_false (by omega)
  have HI := Aside0.mk hin
  clear hin
  clear c2
  go_enter Try.func34, Try.ntmps34
  go_wp2
  have HB := q_ (below_drew1 (Below.refl w.heap.size w))
  refine sr_ (fun w' => True) [] spec_IsClash.tab1 spec_IsClash.bits1 trivial (fun hD hT hW => ?_)
  generalize w.drew = w0 at HB hD ⊢
  clear hD
  refine o_ 0 7 hT ?_
  refine on_ 1 (some 8) (bq_ 2 19) hT (fun K hK => ?_)
  refine goes_ Try.func28 (by kernel_rfl) rfl #[.int .i64 a2, .int .i64 0, .int .i64 32] (by rfl) rfl rfl (by (try simp only [List.map_toArray, List.map_cons, List.map_nil]); first | done | rfl) ?_
  with_reducible refine (spec_l1In.calls a2 0 32 false _ HI.out).mono ?_
  rintro e w' ⟨rfl, ⟨nd, rfl⟩⟩
  refine ⟨_, rfl, ?_⟩
  refine hK.out _ _ trivial (fun hD => ?_)
  clear hK K
  refine nn_ ?_
  have HBn := q_ (pw_below_drewN HB.out nd)
  clear HB
  have HB := HBn
  clear HBn
  generalize World.drewN _ nd = aI at HB hD ⊢
  clear hD
  refine o_ 2 9 hT ?_; refine u_ 3 10 hT ?_; refine u_ 4 11 hT ?_; refine u_ 5 12 hT ?_; refine o_ 6 13 hT ?_; refine o_ 7 14 hT ?_; refine u_ 8 15 hT ?_; refine u_ 9 16 hT ?_; refine u_ 10 17 hT ?_; refine u_ 11 18 hT ?_; refine u_ 12 19 hT ?_; refine u_ 13 20 hT ?_; refine u_ 14 21 hT ?_; refine u_ 15 22 hT ?_; refine u_ 16 23 hT ?_; refine u_ 17 24 hT ?_; refine u_ 18 25 hT ?_; refine o_ 19 26 hT ?_; refine o_ 20 6 hT ?_
  refine done_ (done_of hT.out (by kernel_rfl)) ?_
  try go_wp2
  go_ret
  exact ⟨by first | rfl | (simp; done) | simp [*], HB.out⟩
 ·
  rw [if_neg c] at h
  have aF : (a0.toList == a1.toList) = false := beq_eq_false_iff_ne.mpr c
  have aE : (a0.toList != a1.toList) = true := bne_iff_ne.mpr c
  clear c
  by_cases c2 : 0 ≤ a2 ∧ a2 ≤ 32
  ·
   rw [if_pos c2] at h
   by_cases c3 : a0.size ≤ 9223372036854775807 ∧ a1.size ≤ 9223372036854775807
   rotate_left
   ·
    rw [if_neg c3] at h; cases h
   rw [if_pos c3] at h
   obtain ⟨d0, h0, h⟩ := Option.bind_eq_some_iff.mp h
   obtain ⟨d1, h1, h⟩ := Option.bind_eq_some_iff.mp h
   by_cases c4 : d0.size = 32 ∧ d1.size = 32
   rotate_left
   ·
    rw [if_neg c4] at h; cases h
   rw [if_pos c4] at h
   have hin : spec_l1In.f a2 0 32 = some true := by
    unfold spec_l1In.f
    by_cases c5 : a2 ≥ 0
    rotate_left
    ·
     first | (exfalso; omega) | rw [if_neg c5]
    rw [if_pos c5]
    congr 1
    first | exact decide_eq_true (by omega) | exact decide_eq_false (by omega)
   have HI := Aside0.mk hin
   clear hin
   obtain rfl := Option.some.inj h
   have H0 := Aside0.mk h0
   have H1 := Aside0.mk h1
   have C3 := Aside0.mk c3
   have q1 : (0 : Int) ≤ a2 := c2.1
   have q2 : a2 ≤ (d0.size : Int) := by omega
   have q3 : a2 ≤ (d1.size : Int) := by omega
   clear h h0 h1 c2 c3 c4
   go_enter Try.func34, Try.ntmps34
   go_wp2
   have HB := q_ (below_drew1 (Below.refl w.heap.size w))
   refine sr_ (fun w' => True) [] spec_IsClash.tab1 spec_IsClash.bits1 trivial (fun hD hT hW => ?_)
   generalize w.drew = w0 at HB hD ⊢
   clear hD
   refine o_ 0 7 hT ?_
   refine on_ 1 (some 8) (bq_ 2 19) hT (fun K hK => ?_)
   refine goes_ Try.func28 (by kernel_rfl) rfl #[.int .i64 a2, .int .i64 0, .int .i64 32] (by rfl) rfl rfl (by (try simp only [List.map_toArray, List.map_cons, List.map_nil]); first | done | rfl) ?_
   with_reducible refine (spec_l1In.calls a2 0 32 true _ HI.out).mono ?_
   rintro e w' ⟨rfl, ⟨nd, rfl⟩⟩
   refine ⟨_, rfl, ?_⟩
   refine hK.out _ _ trivial (fun hD => ?_)
   clear hK K
   refine nn_ ?_
   have HBn := q_ (pw_below_drewN HB.out nd)
   clear HB
   have HB := HBn
   clear HBn
   generalize World.drewN _ nd = aH at HB hD ⊢
   clear hD
   refine o_ 2 9 hT ?_; refine o_ 3 10 hT ?_; refine o_ 4 11 hT ?_; refine o_ 5 12 hT ?_; refine o_ 6 13 hT ?_; refine o_ 7 14 hT ?_; refine o_ 8 15 hT ?_; refine o_ 11 18 hT ?_; refine o_ 13 20 hT ?_; refine o_ 16 23 hT ?_
   refine two_ (i := 9) (j := 14) (Ni := some 16) (Nj := some 21) (br_ [10, 1, 1, 1, 1, 2, 1, 4]) (br_ [9, 2, 1, 1, 2, 1, 1, 4]) rfl rfl rfl rfl (two_of hT.out (by kernel_rfl)) (by decide) (by decide) (fun K hK => ?_) (fun K hK => ?_)
   ·
    skip
    refine spec_IsClash.conv_step (by rfl) 9 22 5 _ a0 rfl rfl Try.underlying9 Try.underlying22 Try.underlying5 C3.out.1 ?_
    intro g0 c0 wv hC hl hb
    refine hK.out _ _ trivial (fun hD => ?_)
    clear hK K hD
    refine nn_ ?_
    have HBn := q_ (below_step HB.out hb)
    clear HB
    have HB := HBn
    clear HBn
    have aB := Aside0.mk hC
    have aD := Aside0.mk hl
    clear hC hl hb
    refine two_ (i := 10) (j := 14) (Ni := some 17) (Nj := some 21) (br_ [12, 1, 1, 2, 1, 4]) (br_ [10, 1, 1, 1, 2, 1, 1, 4]) rfl rfl rfl rfl (two_of hT.out (by kernel_rfl)) (by decide) (by decide) (fun K hK => ?_) (fun K hK => ?_)
    ·
     skip
     refine goes_ Try.func51 (by kernel_rfl) rfl #[.slice (some ⟨g0, 0, none⟩) a0.size c0] (by rfl) rfl rfl (by (try simp only [List.map_toArray, List.map_cons, List.map_nil]); first | done | rfl) ?_
     with_reducible refine (spec_IsClash.dig k a0 d0 _ _ _ aB.out aD.out H0.out).mono ?_
     rintro e wv ⟨rfl, hb⟩
     refine ⟨_, rfl, ?_⟩
     refine hK.out _ _ trivial (fun hD => ?_)
     clear hK K hD aB aD
     refine nn_ ?_
     have HBn := q_ (below_step HB.out hb)
     clear HB
     have HB := HBn
     clear HBn hb
     refine o_ 12 19 hT ?_
     refine on_ 14 (some 21) (br_ [15, 1, 1, 4]) hT (fun K hK => ?_)
     refine spec_IsClash.conv_step (by rfl) 9 22 5 _ a1 rfl rfl Try.underlying9 Try.underlying22 Try.underlying5 C3.out.2 ?_
     intro g1 c1 wv hC hl hb
     refine hK.out _ _ trivial (fun hD => ?_)
     clear hK K hD
     refine nn_ ?_
     have HBn := q_ (below_step HB.out hb)
     clear HB
     have HB := HBn
     clear HBn
     have aA := Aside0.mk hC
     have aC := Aside0.mk hl
     clear hC hl hb
     refine on_ 15 (some 22) (bq_ 17 4) hT (fun K hK => ?_)
     refine goes_ Try.func51 (by kernel_rfl) rfl #[.slice (some ⟨g1, 0, none⟩) a1.size c1] (by rfl) rfl rfl (by (try simp only [List.map_toArray, List.map_cons, List.map_nil]); first | done | rfl) ?_
     with_reducible refine (spec_IsClash.dig k a1 d1 _ _ _ aA.out aC.out H1.out).mono ?_
     rintro e wv ⟨rfl, hb⟩
     refine ⟨_, rfl, ?_⟩
     refine hK.out _ _ trivial (fun hD => ?_)
     clear hK K hD aA aC
     refine nn_ ?_
     have HBn := q_ (below_step HB.out hb)
     clear HB
     have HB := HBn
     clear HBn hb
     refine o_ 17 24 hT ?_; refine o_ 18 25 hT ?_; refine o_ 19 26 hT ?_; refine o_ 20 6 hT ?_
     refine done_ (done_of hT.out (by kernel_rfl)) ?_
     try go_wp2
     go_ret
     exact ⟨by first | rfl | (simp; done) | simp [*], HB.out⟩
    ·
     skip
     refine spec_IsClash.conv_step (by rfl) 9 22 5 _ a1 rfl rfl Try.underlying9 Try.underlying22 Try.underlying5 C3.out.2 ?_
     intro g1 c1 wv hC hl hb
     refine hK.out _ _ trivial (fun hD => ?_)
     clear hK K hD
     refine nn_ ?_
     have HCn := q_ (Kd.C_below aB.out hb)
     clear aB
     have aB := HCn
     clear HCn
     have HBn := q_ (below_step HB.out hb)
     clear HB
     have HB := HBn
     clear HBn
     have aA := Aside0.mk hC
     have aC := Aside0.mk hl
     clear hC hl hb
     refine on_ 10 (some 17) (br_ [12, 1, 2, 1, 1, 4]) hT (fun K hK => ?_)
     refine goes_ Try.func51 (by kernel_rfl) rfl #[.slice (some ⟨g0, 0, none⟩) a0.size c0] (by rfl) rfl rfl (by (try simp only [List.map_toArray, List.map_cons, List.map_nil]); first | done | rfl) ?_
     with_reducible refine (spec_IsClash.dig k a0 d0 _ _ _ aB.out aD.out H0.out).mono ?_
     rintro e wv ⟨rfl, hb⟩
     refine ⟨_, rfl, ?_⟩
     refine hK.out _ _ trivial (fun hD => ?_)
     clear hK K hD aB aD
     refine nn_ ?_
     have HCn := q_ (Kd.C_below aA.out hb)
     clear aA
     have aA := HCn
     clear HCn
     have HBn := q_ (below_step HB.out hb)
     clear HB
     have HB := HBn
     clear HBn hb
     refine o_ 12 19 hT ?_
     refine on_ 15 (some 22) (bq_ 17 4) hT (fun K hK => ?_)
     refine goes_ Try.func51 (by kernel_rfl) rfl #[.slice (some ⟨g1, 0, none⟩) a1.size c1] (by rfl) rfl rfl (by (try simp only [List.map_toArray, List.map_cons, List.map_nil]); first | done | rfl) ?_
     with_reducible refine (spec_IsClash.dig k a1 d1 _ _ _ aA.out aC.out H1.out).mono ?_
     rintro e wv ⟨rfl, hb⟩
     refine ⟨_, rfl, ?_⟩
     refine hK.out _ _ trivial (fun hD => ?_)
     clear hK K hD aA aC
     refine nn_ ?_
     have HBn := q_ (below_step HB.out hb)
     clear HB
     have HB := HBn
     clear HBn hb
     refine o_ 17 24 hT ?_; refine o_ 18 25 hT ?_; refine o_ 19 26 hT ?_; refine o_ 20 6 hT ?_
     refine done_ (done_of hT.out (by kernel_rfl)) ?_
     try go_wp2
     go_ret
     exact ⟨by first | rfl | (simp; done) | simp [*], HB.out⟩
   ·
    skip
    refine spec_IsClash.conv_step (by rfl) 9 22 5 _ a1 rfl rfl Try.underlying9 Try.underlying22 Try.underlying5 C3.out.2 ?_
    intro g1 c1 wv hC hl hb
    refine hK.out _ _ trivial (fun hD => ?_)
    clear hK K hD
    refine nn_ ?_
    have HBn := q_ (below_step HB.out hb)
    clear HB
    have HB := HBn
    clear HBn
    have aA := Aside0.mk hC
    have aC := Aside0.mk hl
    clear hC hl hb
    refine on_ 9 (some 16) (br_ [10, 1, 1, 1, 2, 1, 1, 4]) hT (fun K hK => ?_)
    refine spec_IsClash.conv_step (by rfl) 9 22 5 _ a0 rfl rfl Try.underlying9 Try.underlying22 Try.underlying5 C3.out.1 ?_
    intro g0 c0 wv hC hl hb
    refine hK.out _ _ trivial (fun hD => ?_)
    clear hK K hD
    refine nn_ ?_
    have HCn := q_ (Kd.C_below aA.out hb)
    clear aA
    have aA := HCn
    clear HCn
    have HBn := q_ (below_step HB.out hb)
    clear HB
    have HB := HBn
    clear HBn
    have aB := Aside0.mk hC
    have aD := Aside0.mk hl
    clear hC hl hb
    refine on_ 10 (some 17) (br_ [12, 1, 2, 1, 1, 4]) hT (fun K hK => ?_)
    refine goes_ Try.func51 (by kernel_rfl) rfl #[.slice (some ⟨g0, 0, none⟩) a0.size c0] (by rfl) rfl rfl (by (try simp only [List.map_toArray, List.map_cons, List.map_nil]); first | done | rfl) ?_
    with_reducible refine (spec_IsClash.dig k a0 d0 _ _ _ aB.out aD.out H0.out).mono ?_
    rintro e wv ⟨rfl, hb⟩
    refine ⟨_, rfl, ?_⟩
    refine hK.out _ _ trivial (fun hD => ?_)
    clear hK K hD aB aD
    refine nn_ ?_
    have HCn := q_ (Kd.C_below aA.out hb)
    clear aA
    have aA := HCn
    clear HCn
    have HBn := q_ (below_step HB.out hb)
    clear HB
    have HB := HBn
    clear HBn hb
    refine o_ 12 19 hT ?_
    refine on_ 15 (some 22) (bq_ 17 4) hT (fun K hK => ?_)
    refine goes_ Try.func51 (by kernel_rfl) rfl #[.slice (some ⟨g1, 0, none⟩) a1.size c1] (by rfl) rfl rfl (by (try simp only [List.map_toArray, List.map_cons, List.map_nil]); first | done | rfl) ?_
    with_reducible refine (spec_IsClash.dig k a1 d1 _ _ _ aA.out aC.out H1.out).mono ?_
    rintro e wv ⟨rfl, hb⟩
    refine ⟨_, rfl, ?_⟩
    refine hK.out _ _ trivial (fun hD => ?_)
    clear hK K hD aA aC
    refine nn_ ?_
    have HBn := q_ (below_step HB.out hb)
    clear HB
    have HB := HBn
    clear HBn hb
    refine o_ 17 24 hT ?_; refine o_ 18 25 hT ?_; refine o_ 19 26 hT ?_; refine o_ 20 6 hT ?_
    refine done_ (done_of hT.out (by kernel_rfl)) ?_
    try go_wp2
    go_ret
    exact ⟨by first | rfl | (simp; done) | simp [*], HB.out⟩
  ·
   rw [if_neg c2] at h
   obtain rfl := Option.some.inj h
   have hin : spec_l1In.f a2 0 32 = some false := by
    unfold spec_l1In.f
    by_cases c5 : a2 ≥ 0
    rotate_left
    ·
     first | (exfalso; omega) | rw [if_neg c5]
    rw [if_pos c5]
    congr 1
    first | exact decide_eq_true (by omega) | exact decide_eq_false (by omega)
   have HI := Aside0.mk hin
   clear hin
   clear h c2
   go_enter Try.func34, Try.ntmps34
   go_wp2
   have HB := q_ (below_drew1 (Below.refl w.heap.size w))
   refine sr_ (fun w' => True) [] spec_IsClash.tab1 spec_IsClash.bits1 trivial (fun hD hT hW => ?_)
   generalize w.drew = w0 at HB hD ⊢
   clear hD
   refine o_ 0 7 hT ?_
   refine on_ 1 (some 8) (bq_ 2 19) hT (fun K hK => ?_)
   refine goes_ Try.func28 (by kernel_rfl) rfl #[.int .i64 a2, .int .i64 0, .int .i64 32] (by rfl) rfl rfl (by (try simp only [List.map_toArray, List.map_cons, List.map_nil]); first | done | rfl) ?_
   with_reducible refine (spec_l1In.calls a2 0 32 false _ HI.out).mono ?_
   rintro e w' ⟨rfl, ⟨nd, rfl⟩⟩
   refine ⟨_, rfl, ?_⟩
   refine hK.out _ _ trivial (fun hD => ?_)
   clear hK K
   refine nn_ ?_
   have HBn := q_ (pw_below_drewN HB.out nd)
   clear HB
   have HB := HBn
   clear HBn
   generalize World.drewN _ nd = aG at HB hD ⊢
   clear hD
   refine o_ 2 9 hT ?_; refine u_ 3 10 hT ?_; refine u_ 4 11 hT ?_; refine u_ 5 12 hT ?_; refine o_ 6 13 hT ?_; refine o_ 7 14 hT ?_; refine u_ 8 15 hT ?_; refine u_ 9 16 hT ?_; refine u_ 10 17 hT ?_; refine u_ 11 18 hT ?_; refine u_ 12 19 hT ?_; refine u_ 13 20 hT ?_; refine u_ 14 21 hT ?_; refine u_ 15 22 hT ?_; refine u_ 16 23 hT ?_; refine u_ 17 24 hT ?_; refine u_ 18 25 hT ?_; refine o_ 19 26 hT ?_; refine o_ 20 6 hT ?_
   refine done_ (done_of hT.out (by kernel_rfl)) ?_
   try go_wp2
   go_ret
   exact ⟨by first | rfl | (simp; done) | simp [*], HB.out⟩
def impl_isFull.f (k : Nat) (a0 : ByteArray) (a1 : ByteArray) : Option (Bool) := (impl_IsClash.f k a0 a1 32).bind fun aA => (some aA)
theorem impl_isFull.calls (k : Nat) (a0 : ByteArray) (a1 : ByteArray) (r : Bool) (w : World) (h : impl_isFull.f k a0 a1 = some r) :
 Calls Try.prog 60 #[.string a0, .string a1] w fun e w' => e = .returned (.bool r) ∧ Below w.heap.size w w' := by
 have HB := q_ (Below.refl w.heap.size w)
 have H := h
 clear h
 unfold impl_isFull.f at H
 obtain ⟨aA, A3, H⟩ := bo_ H
 obtain rfl := Option.some.inj H
 go_enter Try.func60, Try.ntmps60
 go_wp2_with (first | ((with_reducible refine gate_callee (f := 33) rfl ?_); refine gl_ (some 7) Try.func33 #[.string a0, .string a1, .int .i64 32] rfl al_ ?_; (with_reducible refine (impl_IsClash.calls k a0 a1 32 aA _ A3.out).mono ?_); rintro e w4 ⟨rfl, hb⟩; refine ⟨_, rfl, ?_⟩; replace HB := q_ (below_step (be_ HB.out) hb); (try clear hb)))
 go_ret
 exact ⟨rf_, be_ HB.out⟩
end
end Go.Proofs.Ytgmfhchhbidlnaa.P