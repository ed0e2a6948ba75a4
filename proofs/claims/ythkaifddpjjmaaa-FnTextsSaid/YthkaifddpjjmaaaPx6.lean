-- Written by wip/xp/xp.py over the kit's print; Lean checks it.
import Derived.Test.YthkaifddpjjmaaaPx0
import Derived.Test.YthkaifddpjjmaaaPx1
import Derived.Test.YthkaifddpjjmaaaPx2
import Derived.Test.YthkaifddpjjmaaaPx3
import Derived.Test.YthkaifddpjjmaaaPx5
namespace Go.Proofs.Ythkaifddpjjmaaa.P
open Go.RowKit Go.Proofs.YthkaifddpjjmaaaW.PrintWords Go.Proofs.YthkaifddpjjmaaaW.PrintLast Go.Proofs.YthkaifddpjjmaaaW.PrintMore
attribute [local go_sem] max2_int min2_int max_two min_two max_three min_three max_four min_four   -- for this text's walks alone
set_option linter.unusedVariables false
set_option linter.unusedSimpArgs false

/-! ### laws_FnTexts: function 5 -/
-- by hand
/-- A row of bytes of the call's own, of which at most the place behind its block is frozen (what '[]byte(s)' leaves). -/
def FtRow (w : World) (base g cap : Nat) (xs : List Int) : Prop :=
  base ≤ g ∧ ∃ cur lo hi, w.heap[g]? = some (.cells cur 5 (lo, hi)) ∧ (hi = 0 ∨ cur.size ≤ lo) ∧ xs.length ≤ cap ∧ cap ≤ maxLen ∧ cur.size = cap ∧ cur.toList.take xs.length = xs.map (Value.int .u8)
theorem ft_free {w : World} {base g cap : Nat} {xs : List Int} (h : FtRow w base g cap xs) {j : Nat} (hj : j < cap) : (∃ u, w.cell? ⟨g, j, none⟩ = some u) ∧ w.frozen? ⟨g, j, none⟩ = false := by
  obtain ⟨_, cur, lo, hi, hg, hf, _, _, hs, _⟩ := h
  have hj' : j < cur.size := by omega
  refine ⟨⟨cur[j], by simp [World.cell?, hg, hj']⟩, ?_⟩
  simp only [World.frozen?, hg, Bool.and_eq_false_iff, decide_eq_false_iff_not]
  rcases hf with hf | hf
  · right; omega
  · left; omega
theorem ft_cell {w : World} {base g cap : Nat} {xs : List Int} (h : FtRow w base g cap xs) {j : Nat} (hj : j < xs.length) : w.cell? ⟨g, j, none⟩ = some (.int .u8 (rd xs (j : Int))) := by
  obtain ⟨_, cur, lo, hi, hg, hf, _, _, hs, ht⟩ := h
  have h1 : cur.toList[j]? = some (Value.int .u8 (rd xs (j : Int))) := by
    have h2 : (cur.toList.take xs.length)[j]? = (xs.map (Value.int .u8))[j]? := by rw [ht]
    rw [List.getElem?_take, if_pos hj, List.getElem?_map] at h2
    rw [h2]
    unfold rd
    simp [List.getD_eq_getElem?_getD, hj]
  simp [World.cell?, hg]
  simpa using h1
theorem ft_set {w : World} {base g cap : Nat} {xs : List Int} (h : FtRow w base g cap xs) {j : Nat} (hj : j < xs.length) (v : Int) : FtRow (w.setCell ⟨g, j, none⟩ (.int .u8 v)) base g cap (xs.set j v) := by
  obtain ⟨hb, cur, lo, hi, hg, hf, hn, hm, hs, ht⟩ := h
  refine ⟨hb, cur.setIfInBounds j (.int .u8 v), lo, hi, ?_, by simpa using hf, by simpa using hn, hm, by simpa using hs, ?_⟩
  · rw [setCell_eq_setRow w g j cur _ _ _ hg]
    exact setRow_heap w g cur _ _ _ hg
  · rw [List.length_set, Array.toList_setIfInBounds, List.take_set, ht, List.map_set]
theorem ft_below {w w' : World} {base g cap : Nat} {xs : List Int} (h : FtRow w base g cap xs) (hb : w'.heap[g]? = w.heap[g]?) : FtRow w' base g cap xs := by
  obtain ⟨h1, cur, lo, hi, hg, r⟩ := h
  exact ⟨h1, cur, lo, hi, by rw [hb]; exact hg, r⟩
theorem ft_string {P : Program} {w : World} {base g cap : Nat} {xs : List Int} (h : FtRow w base g cap xs) (src dst : TypeId) (hs : P.underlying src = some (.slice 5)) (he : P.underlying 5 = some (.int .u8)) (hd : P.underlying dst = some .string) :
    (convert src dst (.slice (some ⟨g, 0, none⟩) xs.length cap)).run P w = .ok (.string (strOfNums xs)) w := by
  refine run_convert_bytes_arg w src 5 hs he g 0 xs.length cap xs rfl (fun i hi => ?_) dst hd
  have hc := ft_cell h hi
  rw [Nat.zero_add]
  rw [hc]
  unfold rd
  simp
section
variable {P : Program} {ops : Array Oper} {rest : List Oper} {o : Oper} {a : Act} {Q : Exit → Act → World → Prop}
/-- []byte(s): a row that may be appended to. -/
theorem ft_conv {W : World} (hgd : o.guard = none) (src dst : TypeId) (x : Operand) (s : ByteArray) (ho : o.op = .convert src dst x) (hx : a.eval x = .string s)
    (hs : P.underlying src = some .string) (hd : P.underlying dst = some (.slice 5)) (he : P.underlying 5 = some (.int .u8)) (hl : s.size ≤ 1000)
    (h : ∀ g c w1, FtRow w1 W.heap.size g c (bytesOf s) → Below W.heap.size W w1 → wpList P ops Q rest (a.put o.dst (.slice (some ⟨g, 0, none⟩) (bytesOf s).length c)) w1) : wpList P ops Q (o :: rest) a W := by
  refine Kd.event_run hgd (w1 := Lib.bytesWorld W 5 s) (v := .slice (some ⟨W.heap.size, 0, none⟩) s.size (grownCap W s.size 0 5)) ?_ ?_
  · have hr := Lib.run_convert_string_bytes (P := P) W src dst 5 s hs hd he
    unfold execOp
    rw [ho]
    simp only [hx]
    first | (simp [go_sem, hr]; done) | (simp [hr, Result.andThen]; done) | (show (do let r ← convert src dst (.string s); pure (Next.value r) : Sem Next).run P W = _; simp [hr, Result.andThen])
  · have hbl : (bytesOf s).length = s.size := bytesOf_length s
    have hge := grownCap_ge W s.size 0 5
    have hc : (Lib.bytesCells W 5 s).size = grownCap W s.size 0 5 := by
      simp only [Lib.bytesCells, Array.size_append, Array.size_map, Array.size_replicate]
      show s.size + _ = _
      omega
    have ht : (Lib.bytesCells W 5 s).toList.take (bytesOf s).length = (bytesOf s).map (Value.int .u8) := by
      rw [hbl]
      simp only [Lib.bytesCells, Array.toList_append, Array.toList_map]
      rw [List.take_left' (by simp)]
      simp [bytesOf]
    have h' := h W.heap.size (grownCap W s.size 0 5) (Lib.bytesWorld W 5 s) ⟨Nat.le_refl _, _, _, _, Lib.bytesWorld_at_new W 5 s, .inr (Nat.le_refl _), by rw [hbl]; exact hge, grownCap_le_maxLen W _ _ _ (by simp only [maxLen]; omega), hc, ht⟩ ⟨rfl, rfl, rfl, by rw [Lib.bytesWorld_size]; omega, fun k hk => Lib.bytesWorld_at_old W _ s k hk⟩
    rw [hbl] at h'
    exact h'
/-- append(v, x) behind a conversion: the row's own place, or a new row. -/
theorem ft_append {W : World} (hgd : o.guard = none) (s x : Operand) (t : TypeId) (ho : o.op = .call { callee := .builtin .append, args := #[s, x], argTypes := #[t, t] })
    (ht : P.underlying t = some (.slice 5)) (hinfo : (P.info? 5).map (fun i => (i.zero, i.size, i.bytes)) = some (some (.int .u8 0), 1, 1))
    (base g cap : Nat) (xs : List Int) (p : Int) (hs : a.eval s = .slice (some ⟨g, 0, none⟩) xs.length cap) (hx : a.eval x = .slice (some ⟨W.heap.size, 0, none⟩) 1 1)
    (HO : FtRow W base g cap xs) (hbase : base ≤ W.heap.size) (hl : xs.length ≤ 1000)
    (h : ∀ ad c' w1, (∃ g', ad = ⟨g', 0, none⟩ ∧ FtRow w1 base g' c' (xs ++ [p])) → Below base W w1 → wpList P ops Q rest (a.put o.dst (.slice (some ad) (xs ++ [p]).length c')) w1) :
    wpList P ops Q (o :: rest) a (W.alloc (.cells #[.int .u8 p] 5)) := by
  obtain ⟨i, hi, hzz⟩ := Option.map_eq_some_iff.1 hinfo
  simp only [Prod.mk.injEq] at hzz
  obtain ⟨hz0, hz1, hz2⟩ := hzz
  have hgl : g < W.heap.size := by
    obtain ⟨_, cur, lo, hi, hg, _⟩ := HO
    exact (Array.getElem?_eq_some_iff.1 hg).1
  have hbg := HO.1
  obtain ⟨V, hV⟩ : ∃ V, V = W.alloc (.cells #[.int .u8 p] 5) := ⟨_, rfl⟩
  have HV : FtRow V base g cap xs := ft_below HO (by rw [hV]; exact Below.heap_alloc W _ g hgl)
  have hcell : V.cell? ⟨W.heap.size, 0, none⟩ = some (.int .u8 p) := by
    have h1 : (W.alloc (.cells #[.int .u8 p] 5)).heap[W.heap.size]? = some (.cells #[.int .u8 p] 5) := Go.heap_alloc_new W _
    rw [hV]
    simp only [World.cell?, h1]
    rfl
  have hsz : V.heap.size = W.heap.size + 1 := by rw [hV]; simp
  have hVb : Below base W V := by rw [hV]; exact (Below.refl _ _).alloc hbase _
  have hnew : ∀ j u, ([Value.int .u8 p] : List Value)[j]? = some u → V.cell? ((⟨W.heap.size, 0, none⟩ : Addr).add j) = some u := by
    intro j u hu
    cases j with
    | zero => simp at hu; subst hu; rw [show (⟨W.heap.size, 0, none⟩ : Addr).add 0 = ⟨W.heap.size, 0, none⟩ from rfl]; exact hcell
    | succ j => simp at hu
  have hll : (xs ++ [p]).length = xs.length + 1 := by simp
  have run : ∃ g' c' w1, (Builtin.append_ #[t, t] o.type #[.slice (some ⟨g, 0, none⟩) xs.length cap, .slice (some ⟨W.heap.size, 0, none⟩) 1 1]).run P V = .ok (.slice (some ⟨g', 0, none⟩) (xs ++ [p]).length c') w1 ∧ FtRow w1 base g' c' (xs ++ [p]) ∧ Below base W w1 := by
    by_cases hroom : xs.length + 1 ≤ cap
    · obtain ⟨⟨u, hu⟩, hfz⟩ := ft_free HV (show xs.length < cap by omega)
      have hf := run_firstCells_some (P := P) V 1 1 ⟨W.heap.size, 0, none⟩ 1 1 [.int .u8 p] rfl hnew
      have hadd : (⟨g, 0, none⟩ : Addr).add (xs.length * 1) = ⟨g, xs.length, none⟩ := by rw [Nat.mul_one, Addr.add_lit, Nat.zero_add]
      have hst : (storeCells ⟨g, xs.length, none⟩ [.int .u8 p]).run P V = .ok () (V.setCell ⟨g, xs.length, none⟩ (.int .u8 p)) := by
        have h1 : (store ((⟨g, xs.length, none⟩ : Addr).add 0) (.int .u8 p)).run P V = .ok () (V.setCell ⟨g, xs.length, none⟩ (.int .u8 p)) := by
          rw [show (⟨g, xs.length, none⟩ : Addr).add 0 = ⟨g, xs.length, none⟩ from rfl, run_store P V _ _ _ rfl, hu]
          simp [hfz]
        simp only [storeCells, Sem.run_bind, h1, Result.andThen_ok]
        rfl
      refine ⟨g, cap, V.setCell ⟨g, xs.length, none⟩ (.int .u8 p), ?_, ?_, ?_⟩
      · rw [hll]
        simp [Builtin.append_, run_underlying ht, sizeOf, typeInfo, hi, hz1, Builtin.lenOf, hroom, hf, Addr.add_lit, hst]
      · obtain ⟨_, cur, lo, hi', hg, hf', hn, hm, hs', ht'⟩ := HV
        refine ⟨hbg, cur.setIfInBounds xs.length (.int .u8 p), lo, hi', ?_, by simpa using hf', by rw [hll]; exact hroom, hm, by simpa using hs', ?_⟩
        · rw [setCell_eq_setRow V g _ cur _ _ _ hg]
          exact setRow_heap V g cur _ _ _ hg
        · rw [hll, Array.toList_setIfInBounds, List.take_succ_eq_append_getElem (by simp; omega), List.getElem_set_self, List.take_set, List.set_eq_of_length_le (by rw [List.length_take]; omega), ht', List.map_append]
          rfl
      · exact hVb.setCell (p := ⟨g, xs.length, none⟩) hbg _
    · have hold : ∀ j v, (xs.map (Value.int .u8))[j]? = some v → V.cell? ((⟨g, 0, none⟩ : Addr).add j) = some v := by
        intro j v hv
        have hj : j < xs.length := by have := (List.getElem?_eq_some_iff.1 hv).1; simpa using this
        rw [Addr.add_lit, Nat.zero_add, ft_cell HV hj]
        rw [List.getElem?_map] at hv
        unfold rd
        simp [hj] at hv ⊢
        exact hv
      have hr := run_append_grow (P := P) V t o.type 5 i (.int .u8 0) ht hi hz0 ⟨g, 0, none⟩ xs.length cap (xs.map (Value.int .u8)) (by rw [hz1]; simp) hold ⟨W.heap.size, 0, none⟩ 1 1 [.int .u8 p] (by rw [hz1]; rfl) hnew (by omega) (by omega) (by rw [hz2]; exact growslice_fits (by omega) (by omega))
      refine ⟨_, _, _, by rw [hll]; exact hr, ⟨by show base ≤ V.heap.size; omega, _, 0, 0, Go.heap_alloc_new V.drew _, .inl rfl, ?_, grownCap_le_maxLen V _ _ _ (by simp only [maxLen]; omega), ?_, ?_⟩, ?_⟩
      · rw [hll]
        exact grownCap_ge _ _ _ _
      · have := grownCap_ge V (xs.length + 1) cap 5
        simp only [Array.size_append, List.size_toArray, List.length_map, size_zeroCells, List.length_singleton]
        rw [show (Value.int .u8 0).cells.size = 1 from rfl]
        omega
      · simp only [Array.toList_append, List.toList_toArray]
        rw [List.take_left' (by simp)]
        simp
      · exact (hVb.drew).alloc (by show base ≤ V.heap.size; omega) _
  obtain ⟨g', c', w1, hr, hR, hB⟩ := run
  rw [← hV]
  refine wpList_plain hgd fun K hK => ?_
  unfold Oper.wp execOp
  simp only [ho, resolve, invoke, builtin, Sem.run_bind, Sem.run_pure, Result.andThen_ok, List.map_toArray, List.map_cons, List.map_nil, hs, hx, hr]
  exact hK _ _ (h _ _ _ ⟨g', rfl, hR⟩ hB)
end
theorem ft_mono {w : World} {b b' g cap : Nat} {xs : List Int} (h : FtRow w b g cap xs) (hb : b' ≤ b) : FtRow w b' g cap xs := ⟨Nat.le_trans hb h.1, h.2⟩
theorem ft_stringA {P : Program} {w : World} {base cap : Nat} {ad : Addr} {xs : List Int} (h : ∃ g, ad = ⟨g, 0, none⟩ ∧ FtRow w base g cap xs) (src dst : TypeId) (hs : P.underlying src = some (.slice 5)) (he : P.underlying 5 = some (.int .u8)) (hd : P.underlying dst = some .string) :
    (convert src dst (.slice (some ad) xs.length cap)).run P w = .ok (.string (strOfNums xs)) w := by
  obtain ⟨g, rfl, hF⟩ := h
  exact ft_string hF src dst hs he hd
def laws_FnTexts.r (k : Nat) (s9 : List Int) (l0 x0 : List ByteArray) (h0 i0 j0 : Int) (y0 : List Int) : Option Bool :=
  if 0 ≤ Int.tmod i0 (y0.length : Int) then (if Int.tmod i0 (y0.length : Int) < (y0.length : Int) then (if 0 ≤ IntKind.u64.wrap (Int.tmod j0 8) then
    (laws_sameTexts.f k x0 l0).bind fun e => if e = true then (if 0 ≤ h0 then (if h0 ≤ 4294967295 then
      (impl_Hash.f k (strOfNums (y0.set (Int.tmod i0 (y0.length : Int)).toNat (Go.bits .xor .u8 (rd y0 (Int.tmod i0 (y0.length : Int))) (shl .u8 1 (IntKind.u64.wrap (Int.tmod j0 8))))))).bind fun h1 => some (h1 != h0)
    else none) else none) else none else none) else none) else none
def laws_FnTexts.f (k : Nat) (s9 : List Int) : Option (Bool) := (laws_big.f s9).bind fun g => if g = true then some true else (spec_DrawPutTexts.f k s9).bind fun d => (impl_PutTexts.f k d.1 d.2).bind fun p0 => (impl_GetTexts.f k p0 (d.1.length : Int)).bind fun x =>
  if x.2.2 = true then (if x.2.1 = (p0.length : Int) then (spec_DrawHash.f k s9).bind fun t0 => if t0.size ≤ 1000 then (impl_Hash.f k (strOfNums (bytesOf t0 ++ [7]))).bind fun h0 => (laws_at.f s9 2).bind fun i0 => (laws_at.f s9 3).bind fun j0 => laws_FnTexts.r k s9 d.2 x.1 h0 i0 j0 (bytesOf t0 ++ [7]) else none else none) else none
def laws_FnTexts.T8 : Bool × List (List Nat × List Nat) := (true, [([], []), ([], []), ([1], [1]), ([], []), ([3], [3]), ([2, 4], [2, 4]), ([0, 5], [0, 5]), ([6], [6]), ([], []), ([8, 2], [8]), ([9], [9]), ([10], [10]), ([11], [11]), ([7, 12], [7, 12]), ([0, 5, 0, 1, 2, 3, 4, 5, 6, 7, 8, 9, 10, 11, 12, 13], [0, 5]), ([14, 13, 9, 0, 1, 2, 3, 4, 5, 6, 7, 8, 9, 10, 11, 12, 13], [13, 14])])
def laws_FnTexts.B8 : List Nat := [0, 0, 2, 0, 8, 30, 63, 127, 0, 262, 774, 1798, 3846, 8191, 16383, 32767]
theorem laws_FnTexts.tab8 : rtab .any (opsOf Try.f5 8) = laws_FnTexts.T8 := by kernel_rfl
theorem laws_FnTexts.bits8 : waitsOk laws_FnTexts.T8.2 laws_FnTexts.B8 = true := by kernel_rfl
set_option maxHeartbeats 8000000 in
set_option maxRecDepth 100000 in
theorem laws_FnTexts.calls (k : Nat) (A9 : Option Addr) (c9 : Nat) (s9 : List Int) (r : Bool) (u0 : World) (hr9 : Kd.C (Kd.int .u8) u0 A9 s9.length s9) (hc9 : s9.length ≤ c9) (h : laws_FnTexts.f k s9 = some r) :
    Calls Try.prog 5 #[.slice A9 s9.length c9] u0 fun e w' => e = .returned (.bool r) ∧ Below u0.heap.size u0 w' := by
  have HR9 := Aside0.mk hr9
  have HC9 := Aside0.mk hc9
  clear hr9 hc9
  have HU := Aside0.mk (Below.refl u0.heap.size u0)
  have H := h
  clear h
  unfold laws_FnTexts.f at H
  replace H := Option.bind_eq_some_iff.mp H
  obtain ⟨g, A20, H⟩ := H
  have A2 := Aside0.mk A20
  clear A20
  by_cases cg : g = true
  · subst cg
    rw [if_pos rfl] at H
    obtain rfl := Option.some.inj H
    go_enter Try.func5, Try.ntmps5
    go_wp2_with (first | ((with_reducible refine gate_callee (f := 7) rfl ?_); refine gl_ (some 12) Try.func7 #[.slice A9 s9.length c9] rfl al_ ?_; (with_reducible refine (laws_big.calls _ _ s9 true _ ?side1 ?side2 A2.out).mono ?_); (case side1 => exact kc_ HR9.out); (case side2 => exact HC9.out); rintro e w' ⟨rfl, ⟨nd, rfl⟩⟩; refine ⟨_, rfl, ?_⟩; skip))
    go_ret
    exact ⟨rf_, be_ HU.out⟩
  replace cg := Bool.eq_false_iff.mpr cg
  subst cg
  rw [if_neg (show ¬ (false = true) by decide)] at H
  replace H := Option.bind_eq_some_iff.mp H
  obtain ⟨⟨b0, l0⟩, A40, H⟩ := H
  try dsimp only at H
  have A4 := Aside0.mk A40
  clear A40
  replace H := Option.bind_eq_some_iff.mp H
  obtain ⟨p0, A50, H⟩ := H
  have A5 := Aside0.mk A50
  clear A50
  replace H := Option.bind_eq_some_iff.mp H
  obtain ⟨⟨x0, n0, ok0⟩, A60, H⟩ := H
  try dsimp only at H
  by_cases c1 : ok0 = true
  rotate_left
  · rw [if_neg c1] at H; exact absurd H (by simp)
  rw [if_pos c1] at H
  subst c1
  by_cases c2 : n0 = (p0.length : Int)
  rotate_left
  · rw [if_neg c2] at H; exact absurd H (by simp)
  rw [if_pos c2] at H
  subst c2
  have A6 := Aside0.mk A60
  clear A60
  replace H := Option.bind_eq_some_iff.mp H
  obtain ⟨t0, A70, H⟩ := H
  have A7 := Aside0.mk A70
  clear A70
  by_cases c3 : t0.size ≤ 1000
  rotate_left
  · rw [if_neg c3] at H; exact absurd H (by simp)
  rw [if_pos c3] at H
  have LT := Aside0.mk c3
  have LB : Aside0 ((bytesOf t0).length ≤ 1000) := ⟨by rw [bytesOf_length]; exact c3⟩
  clear c3
  obtain ⟨y0, hy0⟩ : ∃ y_ : List Int, y_ = bytesOf t0 ++ [7] := ⟨_, rfl⟩
  rw [← hy0] at H
  have hy1 : 0 < y0.length := by rw [hy0, List.length_append, List.length_singleton]; omega
  have NY := Aside0.mk hy0
  clear hy0
  replace H := Option.bind_eq_some_iff.mp H
  obtain ⟨h0, A100, H⟩ := H
  have A10 := Aside0.mk A100
  clear A100
  replace H := Option.bind_eq_some_iff.mp H
  obtain ⟨i0, A110, H⟩ := H
  have A11 := Aside0.mk A110
  clear A110
  replace H := Option.bind_eq_some_iff.mp H
  obtain ⟨j0, A160, H⟩ := H
  have A16 := Aside0.mk A160
  clear A160
  unfold laws_FnTexts.r at H
  have c12b0 : ((y0.length : Int) == 0) = false := beq_eq_false_iff_ne.mpr (by omega)
  have c12b1 : ((y0.length : Int) != 0) = true := bne_iff_ne.mpr (by omega)
  have c12b2 : ¬ (y0 = []) := fun h_ => by rw [h_] at hy1; simp at hy1
  have c12 : ¬ (y0.length : Int) = 0 := by omega
  clear hy1
  obtain ⟨ji13, hji13⟩ : ∃ j_ : Int, (Int.tmod i0 (y0.length : Int)) = j_ := ⟨_, rfl⟩
  rw [hji13] at H
  by_cases c14 : 0 ≤ ji13
  rotate_left
  · rw [if_neg c14] at H; exact absurd H (by simp)
  rw [if_pos c14] at H
  have c14b0 : decide (0 ≤ (ji13)) = true := decide_eq_true c14
  clear c14
  by_cases c15 : (ji13) < (y0.length : Int)
  rotate_left
  · rw [if_neg c15] at H; exact absurd H (by simp)
  rw [if_pos c15] at H
  have c15b0 : decide ((ji13) < (y0.length : Int)) = true := decide_eq_true c15
  clear c15
  obtain ⟨ji17, hji17⟩ : ∃ j_ : Int, (IntKind.u64.wrap (Int.tmod j0 8)) = j_ := ⟨_, rfl⟩
  rw [hji17] at H
  by_cases c18 : 0 ≤ (ji17)
  rotate_left
  · rw [if_neg c18] at H; exact absurd H (by simp)
  rw [if_pos c18] at H
  have c18b0 := eq_true c18
  have c18b1 : decide (0 ≤ (ji17)) = true := decide_eq_true c18
  clear c18
  obtain ⟨ji19, hji19⟩ : ∃ j_ : Int, (shl .u8 1 (ji17)) = j_ := ⟨_, rfl⟩
  rw [hji19] at H
  have hji19_ : (IntKind.u8.wrap (1 * 2 ^ min (ji17).toNat 8)) = ji19 := hji19
  have hji19z : (ji17) ≤ 8 → (IntKind.u8.wrap (1 * 2 ^ (ji17).toNat)) = ji19 := shl_small hji19
  have hji19u : (IntKind.u8.wrap (2 ^ min (ji17).toNat 8)) = ji19 := by have h_ := hji19_; rw [Int.one_mul] at h_; exact h_
  have hji19v : (ji17) ≤ 8 → (IntKind.u8.wrap (2 ^ (ji17).toNat)) = ji19 := fun hle_ => by have h_ := hji19z hle_; rw [Int.one_mul] at h_; exact h_
  obtain ⟨y1, hy1⟩ : ∃ y_ : List Int, y_ = (y0.set ((ji13) : Int).toNat (Go.bits .xor .u8 (rd y0 (ji13)) (ji19))) := ⟨_, rfl⟩
  rw [← hy1] at H
  have NY1 := Aside0.mk hy1
  clear hy1
  replace H := Option.bind_eq_some_iff.mp H
  obtain ⟨t256, A220, H⟩ := H
  by_cases c23 : t256 = true
  rotate_left
  · rw [if_neg c23] at H; exact absurd H (by simp)
  subst c23
  rw [if_pos rfl] at H
  have A22 := Aside0.mk A220
  clear A220
  by_cases c25 : 0 ≤ h0
  rotate_left
  · rw [if_neg c25] at H; exact absurd H (by simp)
  rw [if_pos c25] at H
  have c25b0 : decide (0 ≤ h0) = true := decide_eq_true c25
  clear c25
  by_cases c26 : h0 ≤ 4294967295
  rotate_left
  · rw [if_neg c26] at H; exact absurd H (by simp)
  rw [if_pos c26] at H
  have c26b0 : decide (h0 ≤ 4294967295) = true := decide_eq_true c26
  clear c26
  replace H := Option.bind_eq_some_iff.mp H
  obtain ⟨h1, A270, H⟩ := H
  have A27 := Aside0.mk A270
  clear A270
  obtain rfl := Option.some.inj H
  go_enter Try.func5, Try.ntmps5
  try go_wp2_with (first | ((with_reducible refine gate_callee (f := 7) rfl ?_); refine gl_ (some 12) Try.func7 #[.slice A9 s9.length c9] rfl al_ ?_; (with_reducible refine (laws_big.calls _ _ s9 false _ ?side1 ?side2 A2.out).mono ?_); (case side1 => exact kc_ HR9.out); (case side2 => exact HC9.out); rintro e w' ⟨rfl, ⟨nd, rfl⟩⟩; refine ⟨_, rfl, ?_⟩; skip) | ((with_reducible refine gate_callee (f := 23) rfl ?_); refine gl_ (some 15) Try.func23 #[.slice A9 s9.length c9] rfl al_ ?_; (with_reducible refine (spec_DrawPutTexts.calls k _ _ s9 b0 l0 _ ?side1 ?side2 A4.out).mono ?_); (case side1 => exact kc_ HR9.out); (case side2 => exact HC9.out); rintro e wa ⟨v0, v1, rfl, ho0, ho1, hb⟩; refine ⟨_, rfl, ?_⟩; have HO0 := q_ (Kd.R_lower ho0 (below_size (be_ HU.out))); have HO1 := q_ (Kd.R_lower ho1 (below_size (be_ HU.out))); replace HU := q_ (below_step (be_ HU.out) hb); clear hb ho0 ho1; obtain ⟨A0, c0, eo0⟩ := Kd.R_slice HO0.out; subst eo0; obtain ⟨A1, c1, eo1⟩ := Kd.R_slice HO1.out; subst eo1) | ((with_reducible refine gate_callee (f := 24) rfl ?_); refine gl_ (some 20) Try.func24 #[.slice A0 b0.length c0, .slice A1 l0.length c1] rfl al_ ?_; (with_reducible refine (impl_PutTexts.calls k _ _ b0 _ _ l0 p0 _ ?side1 ?side2 ?side3 ?side4 A5.out).mono ?_); (case side1 => exact kc_ (Kd.R_reads' HO0.out).2.2); (case side2 => exact (Kd.R_reads' HO0.out).2.1); (case side3 => exact kc_ (Kd.R_reads' HO1.out).2.2); (case side4 => exact (Kd.R_reads' HO1.out).2.1); rintro e wb ⟨v2, rfl, ho0, hb⟩; refine ⟨_, rfl, ?_⟩; replace HO1 := q_ (Kd.R_below (kr_ HO1.out) hb); have HO2 := q_ (Kd.R_lower ho0 (below_size (be_ HU.out))); replace HU := q_ (below_step (be_ HU.out) hb); clear hb ho0; obtain ⟨A2_, c2, eo2⟩ := Kd.R_slice HO2.out; subst eo2) | ((with_reducible refine gate_callee (f := 25) rfl ?_); refine gl_ (some 25) Try.func25 #[.slice A2_ p0.length c2, .int .i64 (b0.length : Int)] rfl al_ ?_; (with_reducible refine (impl_GetTexts.calls k _ _ p0 (b0.length : Int) x0 (p0.length : Int) true _ ?side1 ?side2 A6.out).mono ?_); (case side1 => exact kc_ (Kd.R_reads' HO2.out).2.2); (case side2 => exact (Kd.R_reads' HO2.out).2.1); rintro e w ⟨v3, rfl, ho0, hb⟩; refine ⟨_, rfl, ?_⟩; replace HO1 := q_ (Kd.R_below (kr_ HO1.out) hb); have HO3 := q_ (Kd.R_lower ho0 (below_size (be_ HU.out))); replace HU := q_ (below_step (be_ HU.out) hb); clear hb ho0; obtain ⟨A3, c3, eo3⟩ := Kd.R_slice HO3.out; subst eo3; have HR1 := q_ (Kd.R_reads' HO1.out).2.2; have HC1 := q_ (Kd.R_reads' HO1.out).2.1; have HR3 := q_ (Kd.R_reads' HO3.out).2.2; have HC3 := q_ (Kd.R_reads' HO3.out).2.1; have HB := q_ (Below.refl w.heap.size w); replace HR9 := q_ (Kd.C_below HR9.out HU.out); clear HO0 HO1 HO2 HO3) | ((with_reducible refine gate_callee (f := 26) rfl ?_); refine gl_ (some 30) Try.func26 #[.slice A9 s9.length c9] rfl al_ ?_; (with_reducible refine (spec_DrawHash.calls k _ _ s9 t0 _ ?side1 ?side2 A7.out).mono ?_); (case side1 => exact kc_ (Kd.C_below HR9.out HB.out)); (case side2 => exact HC9.out); rintro e wc ⟨rfl, hb⟩; refine ⟨_, rfl, ?_⟩; replace HB := q_ (below_step (be_ HB.out) hb); clear hb) | ((with_reducible refine gate_dst (N := 31) rfl ?_); refine ft_conv rfl 9 22 (.tmp 30) t0 rfl rfl Try.underlying9 Try.underlying22 Try.underlying5 LT.out ?_; intro g31 c31 wd hF hb; have HF1 := q_ (ft_mono hF (below_size (be_ HB.out))); replace HB := q_ (below_step (be_ HB.out) hb); clear hF hb) | ((with_reducible refine gate_builtin (b := .append) (xs := #[.tmp 31, .tmp 32]) rfl ?_); at_builtin; refine ft_append rfl (.tmp 31) (.tmp 32) 22 rfl Try.underlying22 info5 w.heap.size g31 c31 (bytesOf t0) 7 rfl rfl HF1.out (below_size (be_ HB.out)) LB.out ?_; intro ad c33 we hF hb; rw [← NY.out] at hF ⊢; have HF := q_ hF; replace HB := q_ (HB.out.trans hb); clear hF hb HF1; have hcv := ft_stringA (P := Try.prog) HF.out 22 9 Try.underlying22 Try.underlying5 Try.underlying9) | ((with_reducible refine gate_callee (f := 27) rfl ?_); refine gl_ (some 36) Try.func27 #[.string (strOfNums y0)] rfl al_ ?_; (with_reducible refine (impl_Hash.calls k (strOfNums y0) h0 _ A10.out).mono ?_); rintro e w' ⟨rfl, ⟨nd, rfl⟩⟩; refine ⟨_, rfl, ?_⟩; (try (rw [drewN_self we]; generalize hq_ : World.drewN we _ = we; have n0_ : Aside0 (∃ g', ad = ⟨g', 0, none⟩ ∧ FtRow we w.heap.size g' c33 y0) := ⟨by rw [← hq_]; exact HF.out⟩; have n1_ : Aside0 (Below w.heap.size w we) := ⟨by rw [← hq_]; exact (be_ HB.out)⟩; clear HF HB hq_ hcv; have HF := n0_; have HB := n1_; clear n0_ n1_))))
  replace HB := q_ (below_drew1 HB.out)
  have HF40 : Aside0 (∃ g', ad = ⟨g', 0, none⟩ ∧ FtRow we.drew w.heap.size g' c33 y0) := ⟨HF.out⟩
  have p253 : 0 ≤ ((ji13) : Int) := od_
  have q253 : (ji13) < (y0.length : Int) := od_
  have hx253_0 : we.drew.cell? (ad.add (ji13).toNat) = some (.int .u8 (rd y0 ji13)) := by
    obtain ⟨g', hg', hF⟩ := HF40.out
    have h_ := ft_cell hF (j := ji13.toNat) (by omega)
    rw [hg', Addr.add_lit, Nat.zero_add, h_, show ((ji13.toNat : Nat) : Int) = ji13 by omega]
  replace p253 := eq_true p253
  replace q253 := eq_true q253
  refine start_ (n := 16) (S := fun w' => w'.cell? (ad.add ((ji13)).toNat) = some (.int .u8 (rd y0 (ji13)))) (ds := [15]) (bq_ 0 16) (by kernel_rfl) rfl rfl (hx253_0) (fun hHeld => ?_); refine with_tabW laws_FnTexts.tab8 laws_FnTexts.bits8 (fun HT_ HW_ => ?_)
  generalize we.drew = w40 at HF40 HB hx253_0 hHeld ⊢
  refine pu_ 0 (some 37) (bq_ 1 15) HT_ ?_
  refine pu_ 1 (some 38) (bq_ 2 14) HT_ ?_
  refine pu_ 3 (some 40) (br_ [2, 1, 1, 12]) HT_ ?_
  refine pu_ 4 (some 41) (br_ [2, 1, 2, 11]) HT_ ?_
  refine pu_ 8 (some 45) (br_ [2, 1, 2, 3, 1, 7]) HT_ ?_
  refine on_ 2 (some 39) (br_ [5, 3, 1, 7]) HT_ (fun K hK => ?_)
  refine goes_ Try.func28 (by kernel_rfl) rfl #[.slice A9 s9.length c9, .int .i64 2] (by rfl) rfl rfl al_ ?_
  with_reducible refine (laws_at.calls _ _ s9 2 i0 _ ?side1 ?side2 A11.out).mono ?_
  (case side1 => exact kc_ (Kd.C_below HR9.out HB.out))
  (case side2 => exact HC9.out)
  rintro e w' ⟨rfl, ⟨nd, rfl⟩⟩
  refine ⟨_, rfl, ?_⟩
  refine hK.out _ _ (hHeld) (fun hHeld => ?_)
  clear hK K
  refine nm_ ?_
  refine pu_ 5 (some 42) (br_ [6, 2, 1, 7]) HT_ ?_
  refine pu_ 6 (some 43) (br_ [7, 1, 1, 7]) HT_ ?_
  refine take_ (i := 7) (N := some 44) (v := ?_) (a' := ?_) (bq_ 9 7) rfl rfl (take_ofW HT_.out HW_.out (by kernel_rfl)) (fun _ _ _ h => h) (Or.inl ⟨by rfl, ?_⟩) hHeld ?_ ?_
  rotate_left
  · intro w' s0
    go_simp
    with_reducible rfl
  rotate_left
  · simp only [Act.put, sa_, sz_, ss_, i64_w, i32_w]; rfl
  refine on_ 9 (some 46) (bq_ 10 6) HT_ (fun K hK => ?_)
  refine goes_ Try.func28 (by kernel_rfl) rfl #[.slice A9 s9.length c9, .int .i64 3] (by rfl) rfl rfl al_ ?_
  with_reducible refine (laws_at.calls _ _ s9 3 j0 _ ?side1 ?side2 A16.out).mono ?_
  (case side1 => repeat (first | exact (Kd.C_below HR9.out (be_ HB.out)) | (with_reducible refine Kd.C_alloc ?_ _) | (with_reducible refine Kd.C_drewN ?_ _) | (with_reducible refine Kd.C_drew ?_)))
  (case side2 => exact HC9.out)
  rintro e w' ⟨rfl, ⟨nd2, rfl⟩⟩
  refine ⟨_, rfl, ?_⟩
  have p20 : 0 ≤ ((ji13) : Int) := od_
  have q20 : ((ji13) : Int) < ((y0.length : Int) : Int) := od_
  obtain ⟨go20, hgo, hF20⟩ := HF40.out
  subst hgo
  have GB20 := Aside0.mk hF20.1
  (first | simp only [add_plain] at hx253_0 | skip)
  have hx20_0 : w40.cell? ⟨go20, ji13.toNat, none⟩ = some (.int .u8 (rd y0 ji13)) := by
    have h_ := ft_cell hF20 (j := ji13.toNat) (by omega)
    rw [h_, show ((ji13.toNat : Nat) : Int) = ji13 by omega]
  have hf20_0 : w40.frozen? ⟨go20, ji13.toNat, none⟩ = false := (ft_free hF20 (j := ji13.toNat) (by have := hF20.2; obtain ⟨cur, lo, hi, _, _, h3, _⟩ := this; omega)).2
  have HP42 := ft_set hF20 (j := ji13.toNat) (by omega) (Go.bits .xor .u8 (rd y0 (ji13)) (ji19))
  rw [← NY1.out] at HP42
  have hyl : y1.length = y0.length := by rw [NY1.out, List.length_set]
  have HYL := Aside0.mk hyl
  have HQ42 := Aside0.mk HP42
  clear HP42 hyl hF20 HF40
  replace p20 := eq_true p20
  replace q20 := eq_true q20
  refine hK.out _ _ (hHeld) (fun hHeld => ?_)
  clear hK K
  refine nm_ ?_
  refine pu_ 10 (some 47) (bq_ 11 5) HT_ ?_
  refine pu_ 11 (some 48) (bq_ 12 4) HT_ ?_
  refine pu_ 12 (some 49) (bq_ 13 3) HT_ ?_
  refine pu_ 13 (some 50) (bq_ 14 2) HT_ ?_
  refine pu_ 14 (some 51) (bq_ 15 1) HT_ ?_
  refine last_ (i := 15) (N := none) (bq_ 16 0) rfl rfl (one_of HT_.out (by kernel_rfl)) (by decide) (fun K hK => ?_)
  refine skip_ (w1 := ?_) (by rfl) rfl ?_ ?_
  rotate_left
  · go_simp
    rfl
  refine hK.out _ _ ?_
  clear hK K
  refine done_ (done_of HT_.out (by kernel_rfl)) ?_
  obtain ⟨w50, hw50, HF50, HB50⟩ : ∃ w50, (w40.drewN (nd + nd2)).setCell ⟨go20, ji13.toNat, none⟩ (.int .u8 (Go.bits .xor .u8 (rd y0 ji13) ji19)) = w50 ∧ Aside0 (FtRow w50 w.heap.size go20 c33 y1) ∧ Aside0 (Below w.heap.size w w50) := ⟨_, rfl, ⟨ft_below HQ42.out rfl⟩, ⟨bs_ HB.out GB20.out⟩⟩
  rw [hw50]
  clear hw50 hHeld hx253_0 hx20_0 hf20_0 HQ42 HB HF
  have hcv44 : ∀ n' : Nat, (convert 22 9 (.slice (some ⟨go20, 0, none⟩) y0.length c33)).run Try.prog (w50.drewN n') = .ok (.string (strOfNums y1)) (w50.drewN n') := fun n' => by
    rw [← HYL.out]
    exact ft_string (w := w50.drewN n') (ft_below HF50.out rfl) 22 9 Try.underlying22 Try.underlying5 Try.underlying9
  try go_wp2_with (first | (go_at_call 29; (with_reducible refine (laws_sameTexts.calls k _ _ x0 _ _ l0 true _ ?side1 ?side2 ?side3 ?side4 A22.out).mono ?_); (case side1 => exact kc_ (Kd.C_below HR3.out HB50.out)); (case side2 => exact HC3.out); (case side3 => exact kc_ (Kd.C_below HR1.out HB50.out)); (case side4 => exact HC1.out); rintro e w' ⟨rfl, ⟨nd, rfl⟩⟩) | (go_at_call 27; (with_reducible refine (impl_Hash.calls k (strOfNums y1) h1 _ A27.out).mono ?_); rintro e w' ⟨rfl, ⟨nd, rfl⟩⟩))
  go_ret
  exact ⟨rf_, below_step HU.out (be_ HB50.out)⟩


end Go.Proofs.Ythkaifddpjjmaaa.P
