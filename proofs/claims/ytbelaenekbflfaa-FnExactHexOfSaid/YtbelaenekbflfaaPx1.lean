-- Written by wip/xp/xp.py over the kit's print; Lean checks it.
import Derived.Test.YtbelaenekbflfaaPx0
namespace Go.Proofs.Ytbelaenekbflfaa.P
open Go.RowKit Go.Proofs.YtbelaenekbflfaaW.PrintWords Go.Proofs.YtbelaenekbflfaaW.PrintLast Go.Proofs.YtbelaenekbflfaaW.PrintMore
attribute [local go_sem] max2_int min2_int max_two min_two max_three min_three max_four min_four   -- for this text's walks alone
set_option linter.unusedVariables false
set_option linter.unusedSimpArgs false

/-! ###  impl_HexOf: function 8 -/
theorem hx_block {w w1 : World} {A : Addr} {n : Nat} {xs : List Int} (h : (Kd.int .u8).C w (some A) n xs) (hb : w1.heap[A.block]? = w.heap[A.block]?) : (Kd.int .u8).C w1 (some A) n xs :=
  ⟨h.1, h.2.1, fun hn => by
   obtain ⟨ad, e, hc⟩ := h.2.2 hn
   cases e
   exact ⟨_, rfl, fun j p hp => by
    obtain ⟨c, h1, h2, h3⟩ := hc j p hp
    exact ⟨c, h1, h2, fun i u hu => (World.cell?_of_block (w := w) (by rw [show (A.add (j * (Kd.int .u8).sz + i)).block = A.block from by unfold Addr.add; split <;> rfl]; exact hb)).trans (h3 i u hu)⟩⟩⟩
theorem hx_reps (w : World) (base : Nat) (ok : Nat → Prop) (ys : List Int) : Reps ((Kd.int .u8).M w base ok) (Kd.int .u8).sz ys (ys.map (Value.int .u8)) := Kd.reps_scalar (enc := Value.int .u8) ys
set_option maxHeartbeats 4000000 in
set_option maxRecDepth 100000 in
theorem hx_copy_used (b : Nat) (w : World) (h0 : w.cell? ⟨b, 0, none⟩ = some (.pointer (some ⟨b, 0, none⟩))) :
  Calls Try.prog 56 #[.pointer (some ⟨b, 0, none⟩)] w fun e w' => e = .returned (.tuple #[]) ∧ w' = w := by
  obtain ⟨j, hj, hjs⟩ := Option.map_eq_some_iff.1 (show (Try.prog.info? 55).map (fun i => i.size) = some 2 by kernel_rfl)
  go_enter Try.func56, Try.ntmps56
  go_wp2
  rw [Lib.run_neq_ptr_same w _ Try.underlying53 hj]
  go_wp2
  go_end0
  exact ⟨rfl, rfl⟩
set_option maxHeartbeats 4000000 in
set_option maxRecDepth 100000 in
theorem hx_copy_fresh (b : Nat) (w : World) (h0 : w.cell? ⟨b, 0, none⟩ = some (.pointer none)) (hsh : w.shape? b = some (55, 2)) (hfz : w.frozen? ⟨b, 0, none⟩ = false) :
  Calls Try.prog 56 #[.pointer (some ⟨b, 0, none⟩)] w fun e w' => e = .returned (.tuple #[]) ∧ w' = w.setCell ⟨b, 0, none⟩ (.pointer (some ⟨b, 0, none⟩)) := by
  obtain ⟨j, hj, hjs⟩ := Option.map_eq_some_iff.1 (show (Try.prog.info? 55).map (fun i => i.size) = some 2 by kernel_rfl)
  have hlies : liesAt Try.prog Try.prog.depth 55 (2 / Try.prog.cellsOf 55) 0 55 1 = true := by kernel_rfl
  go_enter Try.func56, Try.ntmps56
  go_wp2
  rw [Lib.run_to_unsafe w ⟨b, 0, none⟩ Try.underlying53 Try.underlying111 hj (by rw [hjs]; decide) hsh (Nat.zero_lt_succ 1)]
  simp only [Result.andThen]
  rw [Oper.upon_value]
  go_wp2
  rw [run_callFunc_extern Try.func82 (by kernel_rfl) (by kernel_rfl) (by kernel_rfl) (e := Extern.AbiNoEscape.same) (by kernel_rfl)]
  rw [Lib.run_noEscape]
  simp only [Result.andThen]
  rw [Oper.upon_value]
  go_wp2
  rw [Lib.run_from_unsafe w ⟨b, 0, none⟩ Try.underlying111 Try.underlying53 hj hsh hlies]
  simp only [Result.andThen]
  rw [Oper.upon_value]
  go_wp2
  go_end0
  exact ⟨rfl, rfl⟩
/-- A builder of this call's: its two cells, its row. -/
structure HxB (w0 : World) (b g0 : Nat) (P0 : Option Addr) (v : Value) (xs : List Int) (w : World) : Prop where
  cells : w.heap[b]? = some (.cells #[.pointer P0, v] 55 (0, 0))
  row : Kd.R (Kd.int .u8) 5 w w0.heap.size (fun k => k ≠ b ∧ k ≠ g0) v xs
  own : P0 = none ∨ P0 = some ⟨b, 0, none⟩
  below : Below w0.heap.size w0 w
  base : w0.heap.size ≤ b
  other : b ≠ g0
  old : g0 < w.heap.size
  empty : xs = [] → v = .slice none 0 0
theorem hx_kept {w0 w1 wa wb : World} {b g0 : Nat} {v : Value} (HN : w0.heap.size ≤ b ∧ b ≠ g0 ∧ g0 < w1.heap.size ∧ b < w1.heap.size ∧ w0.heap.size ≤ w1.heap.size) (ha : w1.grownBy wa none) (hb : wa.grownBy wb v.ownBlock)
  (hok : ∀ k, v.ownBlock = some k → k ≠ b ∧ k ≠ g0) (k : Nat) (hk : k = b ∨ k = g0) : wb.heap[k]? = w1.heap[k]? := by
  have h2 := ha.size
  have hlt : k < w1.heap.size := by
   rcases hk with rfl | rfl
   · exact HN.2.2.2.1
   · exact HN.2.2.1
  refine (hb.block k (by omega) (fun e => ?_)).trans (ha.block k hlt (fun e => by cases e))
  have h4 := hok k e.symm
  rcases hk with rfl | rfl
  · exact h4.1 rfl
  · exact h4.2 rfl
set_option maxHeartbeats 8000000 in
set_option maxRecDepth 100000 in
theorem hx_put (w0 : World) (b g0 : Nat) (P0 : Option Addr) (v : Value) (xs : List Int) (c : Int) (w : World) (h : HxB w0 b g0 P0 v xs w) (hl : xs.length + 1 ≤ 140737488355328) :
  Calls Try.prog 27 #[.pointer (some ⟨b, 0, none⟩), .int .u8 c] w fun e w' => e = .returned .nilIface ∧ (∃ v', HxB w0 b g0 (some ⟨b, 0, none⟩) v' (xs ++ [c]) w') ∧ w'.heap[g0]? = w.heap[g0]? := by
  obtain ⟨hc, ho, hP, hB, hb, hn, hg, -⟩ := h
  have hblt : b < w.heap.size := (Array.getElem?_eq_some_iff.1 hc).1
  -- behind copyCheck
  obtain ⟨w1, hcall, hc1, ho1, hB1, hg1, hs1⟩ : ∃ w1, Calls Try.prog 56 #[.pointer (some ⟨b, 0, none⟩)] w (fun e w' => e = .returned (.tuple #[]) ∧ w' = w1) ∧
   w1.heap[b]? = some (.cells #[.pointer (some ⟨b, 0, none⟩), v] 55 (0, 0)) ∧ Kd.R (Kd.int .u8) 5 w1 w0.heap.size (fun k => k ≠ b ∧ k ≠ g0) v xs ∧ Below w0.heap.size w0 w1 ∧ w1.heap[g0]? = w.heap[g0]? ∧ w1.heap.size = w.heap.size := by
   rcases hP with rfl | rfl
   · exact ⟨_, hx_copy_fresh b w (by simp [World.cell?, hc]) (by simp [World.shape?, hc]) (by simp [World.frozen?, hc]), by simp [World.setCell, Array.getElem?_modify, hc], Kd.R_step ho (fun k hk _ => Below.heap_setCell _ _ _ _ hk.1),
     hB.setCell (p := ⟨b, 0, none⟩) hb _, Below.heap_setCell _ _ _ _ (Ne.symm hn), by simp [World.setCell]⟩
   · exact ⟨w, hx_copy_used b w (by simp [World.cell?, hc]), hc, ho, hB, rfl, rfl⟩
  have HC := Aside0.mk hcall
  have HO := Aside0.mk ho1
  have HB := Aside0.mk hB1
  have HBK := Aside0.mk hc1
  have HN := Aside0.mk (show w0.heap.size ≤ b ∧ b ≠ g0 ∧ g0 < w1.heap.size ∧ b < w1.heap.size ∧ w0.heap.size ≤ w1.heap.size from ⟨hb, hn, by omega, by omega, hB1.size⟩)
  have HG := Aside0.mk hg1
  have HL := Aside0.mk hl
  have hcz : w1.cell? ⟨b, 1, none⟩ = some v := by simp [World.cell?, hc1]
  clear hcall ho1 hB1 hc1 hc ho hB hb hn hg hg1 hP hs1 hblt
  go_enter Try.func27, Try.ntmps27
  go_wp2_with (first
   | (go_at_call 56; refine HC.out.mono ?_; rintro e w' ⟨rfl, rfl⟩)
   | ((with_reducible refine gate_dst (N := 13) rfl ?_); refine Kd.R_lit (Kd.int .u8) (w0 := w0) w0.heap.size 5 ?hg (N := 13) ?hd (xs := [c]) (inner := [.int .u8 c]) (ok := fun _ => True) (okp := fun _ => True) ?hr ?hp (fun _ hk => hk) trivial HB.out HN.out.2.2.2.2 (by simp) ?_; (case hd => rfl); (case hg => rfl); (case hr => first | (go_simp; done) | (go_simp; rfl)); (case hp => exact hx_reps _ _ _ [c]); intro v1 wa ho1 hb1 hg1 hn1; have HOa := Aside0.mk (Kd.R_below HO.out ((Below.refl _ _).grown hg1 (Nat.le_refl _) (fun _ e => by cases e))); have HGa := Aside0.mk hg1; have HO1 := Aside0.mk ho1; have HB1 := Aside0.mk hb1; obtain ⟨A1, c1, e1⟩ := Kd.R_slice ho1; subst e1; clear ho1 hb1 hg1 hn1)
   | ((with_reducible refine gate_builtin (b := .append) (xs := #[.tmp 11, .tmp 13]) rfl ?_); at_builtin; refine Kd.R_append_rows (Kd.int .u8) (w0 := w0) w0.heap.size rfl (.tmp 11) (.tmp 13) 24 5 (.int .u8 0) 1 rfl Try.underlying24 info5 rfl (by decide) (by omega) v xs [c] _ _ _ (fun k => k ≠ b ∧ k ≠ g0) (fun _ => False) rfl rfl ?aO ?aR (fun _ _ h => h) (fun _ h => h.elim) ?aF ?aB ?aS ?aL ?_; (case aR => exact (Kd.R_reads' HO1.out).2.2); (case aB => exact HB1.out); (case aF => exact (fun k hk => by have h1 := HN.out; have h2 := HGa.out.size; exact ⟨by omega, by omega⟩)); (case aO => exact HOa.out); (case aS => exact HB1.out.size); (case aL => have := HL.out; simp; omega); intro v2 wb ho2 hb2 hg2 hat2; have hbb := (hx_kept HN.out HGa.out hg2 HO.out.1 b (.inl rfl)).trans HBK.out; have hcz2 : wb.cell? ⟨b, 1, none⟩ = some v := Lib.cell_of_heap hbb 1; have hfz2 : wb.frozen? ⟨b, 1, none⟩ = false := Lib.frozen_of_heap hbb 1; have HBB := Aside0.mk hbb; have HGB := Aside0.mk (hx_kept HN.out HGa.out hg2 HO.out.1 g0 (.inr rfl)); have HO2 := Aside0.mk ho2; have HB2 := Aside0.mk hb2; have HS2 := Aside0.mk (Nat.le_trans HGa.out.size hg2.size); obtain ⟨A2, c2, e2⟩ := Kd.R_slice ho2; subst e2; clear hbb ho2 hb2 hg2 hat2))
 
  go_ret
  obtain ⟨h1, h2, h3, h4, h5⟩ := HN.out
  refine ⟨rfl, ⟨.slice A2 (xs.length + 1) c2, ⟨?_, ?_, .inr rfl, HB2.out.setCell (p := ⟨b, 1, none⟩) h1 _, h1, h2, ?_, ?_⟩⟩, ?_⟩
  · have := HBB.out
    simp [World.setCell, Array.getElem?_modify, this]
  · have ho := Kd.R_step HO2.out (w1 := wb.setCell ⟨b, 1, none⟩ (.slice A2 (xs.length + 1) c2)) (fun k hk _ => Below.heap_setCell _ _ _ _ hk.1)
    rw [show (xs ++ [c]).length = xs.length + 1 by simp] at ho
    exact ho
  · have := HS2.out
    simp [World.setCell]
    omega
  · intro h
    exact absurd (congrArg List.length h) (by simp)
  · exact (Below.heap_setCell _ _ _ _ (Ne.symm h2)).trans (HGB.out.trans HG.out)
set_option maxHeartbeats 4000000 in
set_option maxRecDepth 100000 in
theorem hx_string (w0 : World) (b g0 : Nat) (P0 : Option Addr) (v : Value) (xs : List Int) (hby : ∀ x ∈ xs, 0 ≤ x ∧ x < 256) (w : World) (h : HxB w0 b g0 P0 v xs w) :
  Calls Try.prog 28 #[.pointer (some ⟨b, 0, none⟩)] w fun e w' => e = .returned (.string (strOfNums xs)) ∧ Below w0.heap.size w w' := by
  have mixed : Try.prog.follows Departure.mixedOrders = true := by kernel_rfl
  by_cases h0 : xs = []
  · have hv := h.empty h0
    subst h0 hv
    have hUS : ∀ (W : World) (q : Option Addr), (Builtin.unsafeString_ #[85, 3] 9 #[.pointer q, .int .i64 0]).run Try.prog W = .ok (.string .empty) W := fun W q => Lib.run_unsafeString_none W _ _ _ q
    have c1 : w.drew.cell? ⟨b, 1, none⟩ = some (.slice none 0 0) := by
     have : w.drew.heap[b]? = some (.cells #[.pointer P0, .slice none 0 0] 55 (0, 0)) := h.cells
     rw [Lib.cell_of_heap this]; rfl
    have hSD : (Builtin.unsafeSliceData_ #[24] 85 #[.slice none 0 0]).run Try.prog w.drew = .ok (.pointer none) w.drew := rfl
    clear h
    go_enter Try.func28, Try.ntmps28
    go_wp2
    go_region_o
    all_goals (go_wp2; go_ret; exact ⟨rfl, Below.drew (Below.refl _ w)⟩)
  · obtain ⟨inner, hown⟩ := Kd.R_own h.row
    have hl0 : xs.length ≠ 0 := by simpa using h0
    obtain ⟨g, cap, cur, rfl, hbg, hg, hnc, hcm, hcs, htake⟩ : ∃ g cap cur, v = .slice (some ⟨g, 0, none⟩) xs.length cap ∧ w0.heap.size ≤ g ∧ w.heap[g]? = some (.cells cur 5 (0, 0)) ∧ xs.length ≤ cap ∧ cap ≤ maxLen ∧ cur.size = cap * 1 ∧ cur.toList.take (xs.length * 1) = inner := by
     rcases hown.2 with ⟨_, hz⟩ | ⟨g, cap, cur, hv, r⟩
     · exact absurd hz hl0
     · exact ⟨g, cap, cur, hv, r⟩
    have hread := (Kd.R_reads' h.row).2.2
    obtain ⟨l, hl⟩ : ∃ l : List UInt8, l = xs.map (fun x => UInt8.ofNat x.toNat) := ⟨_, rfl⟩
    have hll : l.length = xs.length := by rw [hl, List.length_map]
    have hst : strOfNums xs = ⟨l.toArray⟩ := by rw [hl]; rfl
    have c1 : w.drew.cell? ⟨b, 1, none⟩ = some (.slice (some ⟨g, 0, none⟩) l.length cap) := by
     have : w.drew.heap[b]? = some (.cells #[.pointer P0, .slice (some ⟨g, 0, none⟩) xs.length cap] 55 (0, 0)) := h.cells
     rw [Lib.cell_of_heap this, hll]; rfl
    have hSD : (Builtin.unsafeSliceData_ #[24] 85 #[.slice (some ⟨g, 0, none⟩) l.length cap]).run Try.prog w.drew = .ok (.pointer (some ⟨g, 0, none⟩)) w.drew :=
     Lib.run_unsafeSliceData_row _ _ _ _ _ _ (by omega)
    have hUS : (Builtin.unsafeString_ #[85, 3] 9 #[.pointer (some ⟨g, 0, none⟩), .int .i64 l.length]).run Try.prog w.drew = .ok (.string ⟨l.toArray⟩) (w.drew.freeze ⟨g, 0, none⟩ l.length) := by
     refine Lib.run_unsafeString_row w.drew 85 3 9 5 Try.underlying85 (by kernel_rfl) g cur.size (by have hg' : w.drew.heap[g]? = some (.cells cur 5 (0, 0)) := hg; simp [World.shape?, hg']) l (by intro e; rw [e] at hll; simp at hll; omega) (by omega) (by unfold maxLen at hcm; omega) ?_
     intro j x hx
     have hj : j < xs.length := by rw [← hll]; exact (List.getElem?_eq_some_iff.1 hx).1
     obtain ⟨ad, e, hc⟩ := Kd.at_int hread (j : Int) (by omega) (by omega)
     cases e
     rw [hl, List.getElem?_map, List.getElem?_eq_getElem hj] at hx
     simp only [Option.map_some, Option.some.injEq] at hx
     have hxj := hby xs[j] (List.getElem_mem hj)
     have hrd : rd xs (j : Int) = xs[j] := by
      unfold rd
      rw [List.getD_eq_getElem?_getD, Int.toNat_natCast, List.getElem?_eq_getElem hj]
      rfl
     rw [hrd, Int.toNat_natCast] at hc
     have hxn : ((x.toNat : Nat) : Int) = xs[j] := by
      rw [← hx, UInt8.toNat_ofNat_of_lt' (by simp [UInt8.size]; omega)]
      omega
     rw [hxn]
     exact hc
    rw [hst]
    clear hst hl hread hown htake h hll hl0 hnc
    go_enter Try.func28, Try.ntmps28
    go_wp2
    go_region_o
    all_goals (go_wp2; go_ret; exact ⟨rfl, Lib.below_freeze (Below.drew (Below.refl _ w)) (p := ⟨g, 0, none⟩) hbg _⟩)
theorem hx_conv {P : Program} {ops : Array Oper} {rest : List Oper} {o : Oper} {a : Act} {Q : Exit → Act → World → Prop} {W : World} (hgd : o.guard = none) (src dst e : TypeId) (x : Operand) (s : ByteArray) (xs : List Int) (ho : o.op = .convert src dst x) (hx : a.eval x = .string s)
  (hs : P.underlying src = some .string) (hd : P.underlying dst = some (.slice e)) (he : P.underlying e = some (.int .u8)) (hxs : xs = bytesOf s) (hl : s.size ≤ 9223372036854775807)
  (h : ∀ g c w1, Kd.C (Kd.int .u8) w1 (some ⟨g, 0, none⟩) xs.length xs → xs.length ≤ c → Below W.heap.size W w1 → g = W.heap.size → g < w1.heap.size → wpList P ops Q rest (a.put o.dst (.slice (some ⟨g, 0, none⟩) xs.length c)) w1) : wpList P ops Q (o :: rest) a W := by
  have hlen : xs.length = s.size := by rw [hxs, bytesOf_length]
  refine Kd.event_run hgd (w1 := Lib.bytesWorld W e s) (v := .slice (some ⟨W.heap.size, 0, none⟩) s.size (grownCap W s.size 0 e)) ?_ ?_
  · have hr := Lib.run_convert_string_bytes (P := P) W src dst e s hs hd he
    unfold execOp
    rw [ho]
    simp only [hx]
    first | (simp [go_sem, hr]; done) | (simp [hr, Result.andThen]; done) | (show (do let r ← convert src dst (.string s); pure (Next.value r) : Sem Next).run P W = _; simp [hr, Result.andThen])
  · rw [← hlen]
    refine h _ _ _ ⟨rfl, by omega, fun _ => ⟨_, rfl, fun j p hp => ⟨[.int .u8 p], rfl, rfl, fun i u hu => ?_⟩⟩⟩ ?_ ⟨rfl, rfl, rfl, ?_, fun k hk => Lib.bytesWorld_at_old W e s k hk⟩ rfl (by rw [Lib.bytesWorld_size]; omega)
    · have hj : j < xs.length := (List.getElem?_eq_some_iff.1 hp).1
      obtain ⟨rfl, rfl⟩ : i = 0 ∧ u = .int .u8 p := by
       cases i with
       | zero => simpa using hu.symm
       | succ i => simp at hu
      have hc := Lib.bytesWorld_cell W e s j (by omega)
      have hpj : p = ((s.data.toList.getD j 0).toNat : Int) := by
       have h1 := hp
       rw [hxs, bytesOf, List.getElem?_map] at h1
       obtain ⟨b, hb, rfl⟩ := Option.map_eq_some_iff.1 h1
       rw [List.getD_eq_getElem?_getD, hb]
       rfl
      have ha : (Addr.mk W.heap.size 0 none).add (j * (Kd.int .u8).sz + 0) = ⟨W.heap.size, j, none⟩ := by
       show (Addr.mk W.heap.size 0 none).add (j * 1 + 0) = _
       rw [Nat.mul_one, Nat.add_zero]
       unfold Addr.add
       split
       · next h0 => rw [h0]
       · simp
      rw [ha, hpj]
      exact hc
    · rw [hlen]
      exact grownCap_ge _ _ _ _
    · rw [Lib.bytesWorld_size]
      omega
def hx_hd (x : Int) : Int := if x < 10 then 48 + x else 87 + x
def hx_hex (xs : List Int) : List Int := xs.flatMap fun x => [hx_hd (x / 16), hx_hd (x % 16)]
def impl_HexOf.f (a0 : ByteArray) : Option ByteArray := if a0.size ≤ 30000000000000 then some (strOfNums (hx_hex (bytesOf a0))) else none
theorem hx_hex_len (xs : List Int) : (hx_hex xs).length = 2 * xs.length := by
  induction xs with
  | nil => rfl
  | cons x l ih =>
   have : hx_hex (x :: l) = [hx_hd (x / 16), hx_hd (x % 16)] ++ hx_hex l := rfl
   rw [this, List.length_append, ih]
   simp
   omega
theorem hx_hex_by (xs : List Int) (h : ∀ x ∈ xs, 0 ≤ x ∧ x < 256) : ∀ y ∈ hx_hex xs, 0 ≤ y ∧ y < 256 := by
  intro y hy
  obtain ⟨x, hx, hy⟩ := List.mem_flatMap.1 hy
  have := h x hx
  simp only [List.mem_cons, List.not_mem_nil, or_false] at hy
  unfold hx_hd at hy
  rcases hy with rfl | rfl <;> split <;> omega
theorem hx_hex_snoc (xs : List Int) (i : Nat) (h : i < xs.length) : hx_hex (xs.take (i + 1)) = hx_hex (xs.take i) ++ [hx_hd (xs[i] / 16)] ++ [hx_hd (xs[i] % 16)] := by
  unfold hx_hex
  rw [← List.take_append_getElem h, List.flatMap_append]
  simp
set_option maxRecDepth 100000 in
theorem hx_and (x : Int) (h0 : 0 ≤ x) (h1 : x < 256) : Go.bits .and .u8 x 15 = x % 16 := by
  have key : ∀ n : Fin 256, Go.bits .and .u8 ((n.val : Nat) : Int) 15 = ((n.val : Nat) : Int) % 16 := by decide
  obtain ⟨n, rfl⟩ := Int.eq_ofNat_of_zero_le h0
  exact key ⟨n, by omega⟩
set_option maxRecDepth 100000 in
theorem hx_index (j : Int) (h0 : 0 ≤ j) (h1 : j < 16) : ∀ W : World, (Instr.index 9 (.string ⟨#[48, 49, 50, 51, 52, 53, 54, 55, 56, 57, 97, 98, 99, 100, 101, 102]⟩) (.int .u8 j)).run Try.prog W = .ok (.int .u8 (hx_hd j)) W := by
  obtain ⟨n, rfl⟩ := Int.eq_ofNat_of_zero_le h0
  match n, h1 with
  | 0, _ => exact fun W => by kernel_rfl
  | 1, _ => exact fun W => by kernel_rfl
  | 2, _ => exact fun W => by kernel_rfl
  | 3, _ => exact fun W => by kernel_rfl
  | 4, _ => exact fun W => by kernel_rfl
  | 5, _ => exact fun W => by kernel_rfl
  | 6, _ => exact fun W => by kernel_rfl
  | 7, _ => exact fun W => by kernel_rfl
  | 8, _ => exact fun W => by kernel_rfl
  | 9, _ => exact fun W => by kernel_rfl
  | 10, _ => exact fun W => by kernel_rfl
  | 11, _ => exact fun W => by kernel_rfl
  | 12, _ => exact fun W => by kernel_rfl
  | 13, _ => exact fun W => by kernel_rfl
  | 14, _ => exact fun W => by kernel_rfl
  | 15, _ => exact fun W => by kernel_rfl
  | (n + 16), h => omega
set_option maxHeartbeats 8000000 in
set_option maxRecDepth 100000 in
theorem impl_HexOf.calls (a0 : ByteArray) (r : ByteArray) (w : World) (h : impl_HexOf.f a0 = some r) :
  Calls Try.prog 8 #[.string a0] w fun e w' => e = .returned (.string r) ∧ Below w.heap.size w w' := by
  unfold impl_HexOf.f at h
  by_cases hsz : a0.size ≤ 30000000000000
  rotate_left
  · rw [if_neg hsz] at h; cases h
  rw [if_pos hsz] at h
  have HR := Aside0.mk (Option.some.inj h)
  obtain ⟨xs, hxs⟩ : ∃ xs, bytesOf a0 = xs := ⟨_, rfl⟩
  have hxl : xs.length = a0.size := by rw [← hxs, bytesOf_length]
  have hxb : ∀ x ∈ xs, 0 ≤ x ∧ x < 256 := by
   intro x hx
   rw [← hxs] at hx
   unfold bytesOf at hx
   obtain ⟨b, _, rfl⟩ := List.mem_map.1 hx
   have := b.toNat_lt
   omega
  have HXB := Aside0.mk hxb
  have HXS := Aside0.mk hxs
  have HSZ := Aside0.mk (show a0.size ≤ 9223372036854775807 ∧ xs.length ≤ 30000000000000 from ⟨by omega, by omega⟩)
  clear h hsz hxl hxb hxs
  go_enter Try.func8, Try.ntmps8
  go_wp2_with ((with_reducible refine gate_dst (N := 7) rfl ?_); refine hx_conv rfl 9 24 5 _ a0 xs rfl rfl Try.underlying9 Try.underlying24 Try.underlying5 HXS.out.symm HSZ.out.1 ?_; intro g0 c0 w1 hC hc hb hg0 hg1; have HG0 := Aside0.mk (And.intro hg0 hg1); have HC := Aside0.mk hC; have HB1 := Aside0.mk hb; clear hC hc hb hg0 hg1)
  have hgs := HG0.out.1
  rw [World.size_alloc] at hgs
  have hX0 : HxB w w.heap.size g0 none (.slice none 0 0) [] w1 := ⟨by
   rw [HB1.out.block w.heap.size (by rw [World.size_alloc]; omega)]
   simpa using heap_alloc_new w _, Kd.R_nil _ _ _ _ _, .inl rfl, ((Below.refl _ _).alloc (Nat.le_refl _) _).trans (HB1.out.mono (by rw [World.size_alloc]; omega)), Nat.le_refl _, by omega, HG0.out.2, fun _ => rfl⟩
  have HX0 := Aside0.mk hX0
  clear hX0
  obtain ⟨b, hb⟩ : ∃ b, w.heap.size = b := ⟨_, rfl⟩
  have HBB := Aside0.mk hb
  rw [hb] at HX0 ⊢
  clear hb hgs
  go_loopw [9] (fun v9 wr => ∃ (i : Nat) (P0 : Option Addr) (v : Value), v9 = .int .i64 (i : Int) ∧ i ≤ xs.length ∧ Aside0 (HxB w b g0 P0 v (hx_hex (xs.take i)) wr) ∧ Aside0 (wr.heap[g0]? = w1.heap[g0]?)) (fun v9 _ => xs.length - (intOf v9).toNat)
  case atStart => exact ⟨0, none, _, rfl, Nat.zero_le _, ⟨HX0.out⟩, ⟨rfl⟩⟩
  case round =>
   obtain ⟨i, P0, v, rfl, hi, HX, HGK⟩ := hrel
   by_cases hlt : i < xs.length
   · obtain ⟨x, hx⟩ : ∃ x, xs[i] = x := ⟨_, rfl⟩
     have hxr := HXB.out x (by rw [← hx]; exact List.getElem_mem _)
     have hrd : rd xs (i : Int) = x := by
      unfold rd
      rw [List.getD_eq_getElem?_getD, Int.toNat_natCast, List.getElem?_eq_getElem hlt, ← hx]
      rfl
     obtain ⟨ad, ead, hcell⟩ := Kd.at_int (hx_block HC.out HGK.out) (i : Int) (by omega) (by omega)
     cases ead
     rw [hrd, Int.toNat_natCast, show (Addr.mk g0 0 none).add i = ⟨g0, i, none⟩ from by unfold Addr.add; split; (· next h0 => rw [h0]); (· simp)] at hcell
     have hi1 := hx_index (x / 16) (by omega) (by omega)
     have hi2 : ∀ W : World, (Instr.index 9 (.string ⟨#[48, 49, 50, 51, 52, 53, 54, 55, 56, 57, 97, 98, 99, 100, 101, 102]⟩) (.int .u8 (Go.bits .and .u8 x 15))).run Try.prog W = .ok (.int .u8 (hx_hd (x % 16))) W := by
      rw [hx_and x hxr.1 hxr.2]
      exact hx_index (x % 16) (by omega) (by omega)
     have b1 : (i : Int) < (xs.length : Int) := by omega
     have b0 : (0 : Int) ≤ (i : Int) := by omega
     have HL := Aside0.mk (show (hx_hex (xs.take i)).length + 2 ≤ 140737488355328 by rw [hx_hex_len, List.length_take]; have := HSZ.out.2; omega)
     have HSN := Aside0.mk (show hx_hex (xs.take (i + 1)) = hx_hex (xs.take i) ++ [hx_hd (x / 16)] ++ [hx_hd (x % 16)] by rw [hx_hex_snoc xs i hlt, hx])
     have HXR := Aside0.mk hxr
     clear hrd hxr hx
     go_wp2_with (first
      | (with_reducible (go_at_call 27; refine (hx_put w b g0 P0 v (hx_hex (xs.take i)) (hx_hd (x / 16)) wr HX.out (by have := HL.out; omega)).mono ?_; rintro e w2 ⟨rfl, ⟨v2, hX2⟩, hg2⟩; have HX2 := Aside0.mk hX2; have HG2 := Aside0.mk hg2; clear hX2 hg2))
      | (with_reducible (go_at_call 27; refine (hx_put w b g0 (some ⟨b, 0, none⟩) v2 (hx_hex (xs.take i) ++ [hx_hd (x / 16)]) (hx_hd (x % 16)) w2 HX2.out (by have := HL.out; simp; omega)).mono ?_; rintro e w3 ⟨rfl, ⟨v3, hX3⟩, hg3⟩; have HX3 := Aside0.mk hX3; have HG3 := Aside0.mk hg3; clear hX3 hg3)))
     have hw : wrap64 ((i : Int) + 1) = ((i + 1 : Nat) : Int) := by have := HSZ.out.2; unfold wrap64; omega
     have hq : Aside0 (HxB w b g0 (some ⟨b, 0, none⟩) v3 (hx_hex (xs.take (i + 1))) w3) := ⟨by rw [HSN.out]; exact HX3.out⟩
     refine ⟨⟨i + 1, some ⟨b, 0, none⟩, v3, congrArg _ hw, by omega, hq, ⟨HG3.out.trans (HG2.out.trans HGK.out)⟩⟩, ?_⟩
     rw [hw]
     show xs.length - (((i + 1 : Nat) : Int)).toNat < xs.length - ((i : Int)).toNat
     omega
   · obtain rfl : i = xs.length := by omega
     have HXe : Aside0 (HxB w b g0 P0 v (hx_hex xs) wr) := ⟨by have := HX.out; rw [List.take_length] at this; exact this⟩
     obtain rfl : strOfNums (hx_hex xs) = r := by rw [← HR.out, HXS.out]
     go_wp2_with (go_at_call 28; refine (hx_string w b g0 P0 v _ (hx_hex_by _ (fun x hx => HXB.out x hx)) _ HXe.out).mono ?_; rintro e w4 ⟨rfl, hb4⟩; have HB4 := Aside0.mk hb4; clear hb4)
     go_ret
     refine ⟨rfl, ?_⟩
     exact HXe.out.below.trans HB4.out


end Go.Proofs.Ytbelaenekbflfaa.P
