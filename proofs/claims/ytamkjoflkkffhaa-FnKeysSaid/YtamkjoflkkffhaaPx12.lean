-- Written by wip/xp/xp.py over the kit's print; Lean checks it.
import Derived.Test.YtamkjoflkkffhaaStr
import Derived.Test.YtamkjoflkkffhaaPx0
import Derived.Test.YtamkjoflkkffhaaPx11
namespace Go.Proofs.Ytamkjoflkkffhaa.P
open Go.RowKit Go.Proofs.YtamkjoflkkffhaaW.PrintWords Go.Proofs.YtamkjoflkkffhaaW.PrintLast Go.Proofs.YtamkjoflkkffhaaW.PrintMore
attribute [local go_sem] max2_int min2_int max_two min_two max_three min_three max_four min_four   -- for this text's walks alone
set_option linter.unusedVariables false
set_option linter.unusedSimpArgs false

/-! ### impl_putKey: function 58 -/
-- by hand
def pk_cs (p : S53) : List Value := [.string p.f0, .string p.f1]
theorem pk_flat : Kd.Flat k53 pk_cs := ⟨fun w base ok x c => ⟨fun h => k53_openM h, fun h => by rw [h]; exact k53_mkM w base ok x⟩⟩
theorem pk_two (p : S53) : (pk_cs p).length = 2 := rfl
theorem pk_one (p : S53) : ∀ u ∈ pk_cs p, u.oneCell' = true := by
  intro u hu
  simp only [pk_cs, List.mem_cons, List.not_mem_nil, or_false] at hu
  rcases hu with rfl | rfl <;> rfl
theorem pk_info : (Try.prog.info? 53).map (·.size) = some 2 := by kernel_rfl
theorem pk_size : ∀ w, (Go.sizeOf 53).run Try.prog w = .ok 2 w := fun w => by kernel_rfl
theorem pk_max {c : Nat} (h : c ≤ maxLen) : c ≤ 9223372036854775807 := by simpa [maxLen] using h
set_option maxHeartbeats 8000000 in
set_option maxRecDepth 100000 in
theorem pk_shift (g cap : Nat) (cur : Array Value) (l : List S53) (i vb : Nat) (p : S53) (w : World) (hrow : w.heap[g]? = some (.cells cur 53 (0, 0))) (hsz : cur.size = cap * 2) (hroom : l.length + 1 ≤ cap) (hmax : cap ≤ 9223372036854775807)
    (hcs : cur.toList.take (l.length * 2) = Kd.fcs pk_cs l) (hi : i < l.length) (hv : w.heap[vb]? = some (.cells #[.string p.f0, .string p.f1] 53 (0, 0))) (hne : vb ≠ g) :
    Calls Try.prog 82 #[.slice (some ⟨g, 0, none⟩) l.length cap, .int .i64 (i : Int), .slice (some ⟨vb, 0, none⟩) 1 1] w fun e w' =>
      e = .returned (.slice (some ⟨g, 0, none⟩) (l.length + 1) cap) ∧ ∃ cur', w'.heap[g]? = some (.cells cur' 53 (0, 0)) ∧ cur'.size = cap * 2 ∧ cur'.toList.take ((l.length + 1) * 2) = Kd.fcs pk_cs (l.take i ++ [p] ++ l.drop i) ∧ w.grownBy w' (some g) := by
  have t24 := Try.underlying24
  have hsa : w.shape? vb = some (53, 2) := by simp [World.shape?, hv]
  have hsb : w.shape? g = some (53, cap * 2) := by simp [World.shape?, hrow, hsz]
  have hov : ∀ lb cb, (callFunc 93 #[.slice (some ⟨vb, 0, none⟩) 1 1, .slice (some ⟨g, (i + 1) * 2, none⟩) lb cb]).run Try.prog w = .ok (.value (.bool false)) w := fun lb cb => by
    rw [run_callFunc_extern Try.func93 (by kernel_rfl) (by kernel_rfl) (by kernel_rfl) (e := Extern.SlicesOverlaps.overlaps #[24, 24] #[4]) (by kernel_rfl),
      Lib.run_overlaps_apart w 24 4 53 t24 2 pk_size ⟨vb, 0, none⟩ ⟨g, (i + 1) * 2, none⟩ 1 1 lb cb hne _ _ 2 (cap * 2) hsa hsb (by omega) (blk_frozen hv _) (blk_frozen hv _)]
    rfl
  have hdl : (Kd.fcs pk_cs (l.drop i)).length = (l.length - i) * 2 := by rw [Kd.fcs_len pk_two, List.length_drop]
  have hcell : ∀ j v, (Kd.fcs pk_cs l)[j]? = some v → cur[j]? = some v := fun j v h => by
    rw [← hcs, List.getElem?_take] at h
    split at h
    · rw [← Array.getElem?_toList]; exact h
    · cases h
  obtain ⟨c1, hc1⟩ : ∃ c1, c1 = (cur.toList.take ((i + 1) * 2) ++ Kd.fcs pk_cs (l.drop i) ++ cur.toList.drop ((i + 1) * 2 + (Kd.fcs pk_cs (l.drop i)).length)).toArray := ⟨_, rfl⟩
  have hcp1 : ∀ ty dc sc, (Builtin.copy_ #[24, 24] ty #[.slice (some ⟨g, (i + 1) * 2, none⟩) (l.length - i) dc, .slice (some ⟨g, i * 2, none⟩) (l.length + 1 - i) sc]).run Try.prog w.drew = .ok (goInt (l.length - i : Nat)) (w.drew.setRow g c1) := fun ty dc sc => by
    rw [hc1]
    exact Kd.run_copy_k w.drew 24 24 ty 53 2 g ((i + 1) * 2) (l.length - i) dc ⟨g, i * 2, none⟩ (l.length + 1 - i) sc (l.length - i) cur 53 (Kd.fcs pk_cs (l.drop i)) t24 pk_info hrow (by simp only [Nat.min_def]; split <;> omega) hdl
      (fun j v hj => by
        rw [Addr.add_lit, cell_of_row w.drew g _ cur _ _ hrow]
        refine hcell _ _ ?_
        rw [← Kd.fcs_drop pk_two, List.getElem?_drop] at hj
        exact hj) (by rw [hdl]; omega) (Kd.fcs_one pk_one _)
  have hc1s : c1.size = cap * 2 := by
    rw [hc1]
    simp only [List.size_toArray, List.length_append, List.length_take, List.length_drop, Array.length_toList, hdl]
    omega
  obtain ⟨W1, hW1⟩ : ∃ W1, W1 = w.drew.setRow g c1 := ⟨_, rfl⟩
  have hr1 : W1.heap[g]? = some (.cells c1 53 (0, 0)) := by rw [hW1]; exact setRow_heap w.drew g cur c1 _ _ hrow
  have hv1 : W1.heap[vb]? = some (.cells #[.string p.f0, .string p.f1] 53 (0, 0)) := by rw [hW1, setRow_other w.drew g vb c1 hne]; exact hv
  obtain ⟨c2, hc2⟩ : ∃ c2, c2 = (c1.toList.take (i * 2) ++ pk_cs p ++ c1.toList.drop (i * 2 + (pk_cs p).length)).toArray := ⟨_, rfl⟩
  have hcp2 : ∀ ty dc, (Builtin.copy_ #[24, 24] ty #[.slice (some ⟨g, i * 2, none⟩) (l.length + 1 - i) dc, .slice (some ⟨vb, 0, none⟩) 1 1]).run Try.prog W1 = .ok (goInt (1 : Nat)) (W1.setRow g c2) := fun ty dc => by
    rw [hc2]
    exact Kd.run_copy_k W1 24 24 ty 53 2 g (i * 2) (l.length + 1 - i) dc ⟨vb, 0, none⟩ 1 1 1 c1 53 (pk_cs p) t24 pk_info hr1 (by simp only [Nat.min_def]; split <;> omega) rfl
      (fun j v hj => by rw [Addr.add_lit, cell_of_row W1 vb _ _ _ _ hv1, Nat.zero_add]; rw [← hj, ← Array.getElem?_toList]; rfl) (by rw [pk_two]; omega) (pk_one p)
  have hc2s : c2.size = cap * 2 := by
    rw [hc2]
    simp only [List.size_toArray, List.length_append, List.length_take, List.length_drop, Array.length_toList, pk_two, hc1s]
    omega
  have hend : c2.toList.take ((l.length + 1) * 2) = Kd.fcs pk_cs (l.take i ++ [p] ++ l.drop i) := by
    have e1 : c1.toList.take (i * 2) = Kd.fcs pk_cs (l.take i) := by
      rw [hc1, ← Kd.fcs_take pk_two, ← hcs, List.take_take, Nat.min_eq_left (by omega)]
      simp only [List.append_assoc]
      rw [List.take_append_of_le_length (by rw [List.length_take, Array.length_toList]; omega), List.take_take, Nat.min_eq_left (by omega)]
    have e2 : (c1.toList.drop (i * 2 + 2)).take ((l.length - i) * 2) = Kd.fcs pk_cs (l.drop i) := by
      rw [hc1]
      simp only [List.append_assoc]
      rw [List.drop_append_of_le_length (by rw [List.length_take, Array.length_toList]; omega), List.drop_eq_nil_of_le (by rw [List.length_take]; omega), List.nil_append, ← hdl]
      exact List.take_left' rfl
    rw [hc2, Kd.fcs_app, Kd.fcs_app, ← e1, ← e2, pk_two]
    have e3 : Kd.fcs pk_cs [p] = pk_cs p := rfl
    have hl1 : (c1.toList.take (i * 2)).length = i * 2 := by rw [List.length_take, Array.length_toList, hc1s]; omega
    rw [e3, List.append_assoc, List.append_assoc, show (l.length + 1) * 2 = (c1.toList.take (i * 2)).length + (2 + (l.length - i) * 2) by rw [hl1]; omega, List.take_length_add_append, show 2 + (l.length - i) * 2 = (pk_cs p).length + (l.length - i) * 2 by rw [pk_two], List.take_length_add_append]
  have HE := Aside0.mk hend
  have HS := Aside0.mk hc2s
  have HR1 := Aside0.mk hr1
  have HGW : Aside0 (w.grownBy W1 (some g)) := ⟨by rw [hW1]; exact (World.grownBy.ofBelow (below_drew (Below.refl _ _))).then (World.grownBy.ofRow w.drew g c1)⟩
  rw [← hW1] at hcp1
  clear hend hc2s hr1 hW1 hv1 hc1s hcell hdl hc1 hc2 hcs hsa hsb hv hrow
  have hw1 : IntKind.i64.wrap ((i : Int) + 1) = (i : Int) + 1 := by rw [IntKind.wrap_i64]; omega
  have hb1 : (0 : Int) ≤ (i : Int) + 1 := by omega
  have hin : i ≤ l.length := by omega
  have htn : ((i : Int) + 1).toNat = i + 1 := by omega
  have hb2 : ¬ (cap = i + 1) := by omega
  have hb3 : (i : Int) ≤ (l.length : Int) + 1 := by omega
  have hb4 : ¬ (cap = i) := by omega
  have hz2 : ¬ ((i : Int) = (l.length : Int)) := by omega
  go_enter Try.func82, Try.ntmps82
  go_wp2_with (simp only [hov])
  go_region_law (refine Kd.step_copy_k rfl _ _ 24 24 rfl _ _ (by simp [Act.eval, Act.put]) (by simp [Act.eval, Act.put]) (hcp1 _ _ _) ?_)
  go_wp2_with (at_builtin; refine Kd.wpList_copy_k _ rfl _ _ 24 24 rfl _ _ rfl rfl (hcp2 _ _) ?_)
  go_ret
  exact ⟨rfl, c2, setRow_heap W1 g c1 c2 _ _ HR1.out, HS.out, HE.out, HGW.out.then (World.grownBy.ofRow W1 g c2)⟩
set_option maxHeartbeats 8000000 in
set_option maxRecDepth 100000 in
theorem pk_grow (g cap : Nat) (cur : Array Value) (l : List S53) (i vb : Nat) (p : S53) (w : World) (hrow : w.heap[g]? = some (.cells cur 53 (0, 0))) (hsz : cur.size = cap * 2) (hcap : l.length ≤ cap) (hroom : cap < l.length + 1) (hbig : (l.length + 1) * 32 ≤ 140737488355328)
    (hcs : cur.toList.take (l.length * 2) = Kd.fcs pk_cs l) (hi : i < l.length) (hv : w.heap[vb]? = some (.cells #[.string p.f0, .string p.f1] 53 (0, 0))) :
    Calls Try.prog 82 #[.slice (some ⟨g, 0, none⟩) l.length cap, .int .i64 (i : Int), .slice (some ⟨vb, 0, none⟩) 1 1] w fun e w' =>
      ∃ g' cap' cur', e = .returned (.slice (some ⟨g', 0, none⟩) (l.length + 1) cap') ∧ w.heap.size ≤ g' ∧ w'.heap[g']? = some (.cells cur' 53 (0, 0)) ∧ l.length + 1 ≤ cap' ∧ cap' ≤ maxLen ∧ cur'.size = cap' * 2 ∧ cur'.toList.take ((l.length + 1) * 2) = Kd.fcs pk_cs (l.take i ++ [p] ++ l.drop i) ∧ w.grownBy w' (some g) := by
  have t24 := Try.underlying24
  have mixed : Try.prog.follows Departure.mixedOrders = true := by kernel_rfl
  obtain ⟨i0, hi0, hzz⟩ := Option.map_eq_some_iff.1 info53
  simp only [Prod.mk.injEq] at hzz
  obtain ⟨hz0, hzs, hzb⟩ := hzz
  have hgw : g < w.heap.size := (Array.getElem?_eq_some_iff.1 hrow).1
  have hvw : vb < w.heap.size := (Array.getElem?_eq_some_iff.1 hv).1
  have hdl : (Kd.fcs pk_cs (l.drop i)).length = (l.length - i) * 2 := by rw [Kd.fcs_len pk_two, List.length_drop]
  have htl : (Kd.fcs pk_cs (l.take i)).length = i * 2 := by rw [Kd.fcs_len pk_two, List.length_take, Nat.min_eq_left (by omega)]
  have hcell : ∀ j v, (Kd.fcs pk_cs l)[j]? = some v → cur[j]? = some v := fun j v h => by
    rw [← hcs, List.getElem?_take] at h
    split at h
    · rw [← Array.getElem?_toList]; exact h
    · cases h
  have hik : i + (l.length + 1 - i) = l.length + 1 := by omega
  have hkk : (l.length : Int) + 1 - (i : Int) = ((l.length + 1 - i : Nat) : Int) := by omega
  have hold : (Builtin.firstCells i0.size i (.slice (some ⟨g, 0, none⟩) i cap)).run Try.prog w.drew = .ok (Kd.fcs pk_cs (l.take i)).toArray w.drew := by
    rw [hzs]
    exact run_firstCells_some w.drew 2 i ⟨g, 0, none⟩ i cap (Kd.fcs pk_cs (l.take i)) htl (fun j v hj => by
      rw [Addr.add_lit, Nat.zero_add, cell_of_row w.drew g _ cur _ _ hrow]
      refine hcell _ _ ?_
      rw [← Kd.fcs_take pk_two, List.getElem?_take] at hj
      split at hj
      · exact hj
      · cases hj)
  obtain ⟨G, hG⟩ : ∃ G, G = grownCap w (l.length + 1) cap 53 := ⟨_, rfl⟩
  have hGn : l.length + 1 ≤ G := by rw [hG]; exact grownCap_ge w _ _ _
  have hGm : G ≤ maxLen := by rw [hG]; exact grownCap_le_maxLen w _ _ _ (by unfold maxLen; omega)
  obtain ⟨ROW, hROW⟩ : ∃ ROW : Array Value, ROW = (Kd.fcs pk_cs (l.take i)).toArray ++ Builtin.zeroCells (Value.agg #[.string ⟨#[]⟩, .string ⟨#[]⟩]).cells (l.length + 1 - i) ++ Builtin.zeroCells (Value.agg #[.string ⟨#[]⟩, .string ⟨#[]⟩]).cells (G - (l.length + 1)) := ⟨_, rfl⟩
  have hz2 : (Value.agg #[.string ⟨#[]⟩, .string ⟨#[]⟩]).cells.size = 2 := rfl
  have hRs : ROW.size = G * 2 := by
    rw [hROW]
    simp only [Array.size_append, List.size_toArray, size_zeroCells, htl, hz2]
    omega
  have hRt : ROW.toList.take (i * 2) = Kd.fcs pk_cs (l.take i) := by
    rw [hROW]
    simp only [Array.toList_append, List.append_assoc]
    rw [← htl]
    exact List.take_left
  have hrz : ∀ ty, (Builtin.append_ #[24, 3] ty #[.slice (some ⟨g, 0, none⟩) i cap, .int .i64 ((l.length : Int) + 1 - (i : Int))]).run Try.prog w =
      .ok (.slice (some ⟨w.heap.size, 0, none⟩) (l.length + 1) G) (w.drew.alloc (.cells ROW 53)) := fun ty => by
    have h := Lib.run_append_grow_zeros w 24 3 ty 53 i0 _ .i64 .i64 t24 Try.underlying3 hi0 hz0 (some ⟨g, 0, none⟩) i cap (Kd.fcs pk_cs (l.take i)) hold (l.length + 1 - i) (by omega) (by omega) (by omega) (by omega) (by rw [hzb]; omega) (by rw [hzb, hik]; exact growslice_fits hroom hbig)
    rw [hik, ← hG, ← hROW] at h
    rw [hkk]
    exact h
  obtain ⟨W1, hW1⟩ : ∃ W1, W1 = w.drew.alloc (.cells ROW 53) := ⟨_, rfl⟩
  have hr1 : W1.heap[w.heap.size]? = some (.cells ROW 53 (0, 0)) := by rw [hW1]; exact heap_alloc_new w.drew _
  have ho1 : ∀ k, k < w.heap.size → W1.heap[k]? = w.heap[k]? := fun k hk => by rw [hW1]; exact (below_alloc (below_drew (Below.refl w.heap.size w)) _).block k hk
  obtain ⟨c1, hc1⟩ : ∃ c1, c1 = (ROW.toList.take (i * 2) ++ pk_cs p ++ ROW.toList.drop (i * 2 + (pk_cs p).length)).toArray := ⟨_, rfl⟩
  have hcp1 : ∀ ty dc, (Builtin.copy_ #[24, 24] ty #[.slice (some ⟨w.heap.size, i * 2, none⟩) (l.length + 1 - i) dc, .slice (some ⟨vb, 0, none⟩) 1 1]).run Try.prog W1 = .ok (goInt (1 : Nat)) (W1.setRow w.heap.size c1) := fun ty dc => by
    rw [hc1]
    exact Kd.run_copy_k W1 24 24 ty 53 2 w.heap.size (i * 2) (l.length + 1 - i) dc ⟨vb, 0, none⟩ 1 1 1 ROW 53 (pk_cs p) t24 pk_info hr1 (by simp only [Nat.min_def]; split <;> omega) rfl
      (fun j v hj => by rw [Addr.add_lit, cell_of_row W1 vb _ _ _ _ ((ho1 vb hvw).trans hv), Nat.zero_add]; rw [← hj, ← Array.getElem?_toList]; rfl) (by rw [pk_two]; omega) (pk_one p)
  have hc1s : c1.size = G * 2 := by
    rw [hc1]
    simp only [List.size_toArray, List.length_append, List.length_take, List.length_drop, Array.length_toList, pk_two, hRs]
    omega
  obtain ⟨W2, hW2⟩ : ∃ W2, W2 = W1.setRow w.heap.size c1 := ⟨_, rfl⟩
  have hr2 : W2.heap[w.heap.size]? = some (.cells c1 53 (0, 0)) := by rw [hW2]; exact setRow_heap W1 _ ROW c1 _ _ hr1
  have hrg : W2.heap[g]? = some (.cells cur 53 (0, 0)) := by rw [hW2, setRow_other W1 _ g c1 (by omega), ho1 g hgw]; exact hrow
  obtain ⟨c2, hc2⟩ : ∃ c2, c2 = (c1.toList.take ((i + 1) * 2) ++ Kd.fcs pk_cs (l.drop i) ++ c1.toList.drop ((i + 1) * 2 + (Kd.fcs pk_cs (l.drop i)).length)).toArray := ⟨_, rfl⟩
  have hcp2 : ∀ ty dc sc, (Builtin.copy_ #[24, 24] ty #[.slice (some ⟨w.heap.size, (i + 1) * 2, none⟩) (l.length - i) dc, .slice (some ⟨g, i * 2, none⟩) (l.length - i) sc]).run Try.prog W2.drew = .ok (goInt (l.length - i : Nat)) (W2.drew.setRow w.heap.size c2) := fun ty dc sc => by
    rw [hc2]
    exact Kd.run_copy_k W2.drew 24 24 ty 53 2 w.heap.size ((i + 1) * 2) (l.length - i) dc ⟨g, i * 2, none⟩ (l.length - i) sc (l.length - i) c1 53 (Kd.fcs pk_cs (l.drop i)) t24 pk_info hr2 (by simp only [Nat.min_def]; split <;> omega) hdl
      (fun j v hj => by
        rw [Addr.add_lit, cell_of_row W2.drew g _ cur _ _ hrg]
        refine hcell _ _ ?_
        rw [← Kd.fcs_drop pk_two, List.getElem?_drop] at hj
        exact hj) (by rw [hdl]; omega) (Kd.fcs_one pk_one _)
  have hc2s : c2.size = G * 2 := by
    rw [hc2]
    simp only [List.size_toArray, List.length_append, List.length_take, List.length_drop, Array.length_toList, hdl, hc1s]
    omega
  have hend : c2.toList.take ((l.length + 1) * 2) = Kd.fcs pk_cs (l.take i ++ [p] ++ l.drop i) := by
    have e1 : c1.toList.take ((i + 1) * 2) = Kd.fcs pk_cs (l.take i) ++ pk_cs p := by
      rw [hc1, ← hRt]
      simp only [List.append_assoc]
      rw [show (i + 1) * 2 = (ROW.toList.take (i * 2)).length + 2 by rw [List.length_take, Array.length_toList, hRs]; omega, List.take_length_add_append]
      congr 1
      all_goals exact List.take_left' rfl
    have hl1 : (c1.toList.take ((i + 1) * 2)).length = (i + 1) * 2 := by rw [List.length_take, Array.length_toList, hc1s]; omega
    rw [hc2, Kd.fcs_app, Kd.fcs_app]
    have e3 : Kd.fcs pk_cs [p] = pk_cs p := rfl
    rw [e3, ← e1]
    exact List.take_left' (by rw [List.length_append, hl1, hdl]; omega)
  obtain ⟨W3, hW3⟩ : ∃ W3, W3 = W2.drew.setRow w.heap.size c2 := ⟨_, rfl⟩
  have hr3 : W3.heap[w.heap.size]? = some (.cells c2 53 (0, 0)) := by rw [hW3]; exact setRow_heap W2.drew _ c1 c2 _ _ hr2
  have hg3 : w.grownBy W3 (some g) := by
    have g1 : w.grownBy W1 (some g) := by rw [hW1]; exact World.grownBy.ofBelow (below_alloc (below_drew (Below.refl _ _)) _)
    have g2 : ∀ (V : World) (c : Array Value), w.grownBy V (some g) → w.grownBy (V.setRow w.heap.size c) (some g) := fun V c h => ⟨h.os, h.tape, h.output, by simpa [World.setRow] using h.size, fun k hk hkg => (setRow_other V _ k c (by omega)).trans (h.block k hk hkg)⟩
    have g3 := g2 _ c1 g1
    rw [← hW2] at g3
    have g4 : w.grownBy W2.drew (some g) := ⟨g3.os, g3.tape, g3.output, g3.size, g3.block⟩
    rw [hW3]
    exact g2 _ c2 g4
  have HE := Aside0.mk (And.intro hr3 (And.intro hGn (And.intro hGm (And.intro hc2s (And.intro hend hg3)))))
  rw [← hW1] at hrz
  rw [← hW2] at hcp1
  rw [← hW3] at hcp2
  have hG63 : G ≤ 9223372036854775807 := pk_max hGm
  clear hend hc2s hr3 hg3 hr2 hrg hr1 ho1 hW1 hW2 hW3 hc1s hcell hdl htl hold hik hkk hROW hRs hRt hz2 hc1 hc2 hcs hv hrow hGm hi0 hz0 hzs hzb hG
  have hw1 : IntKind.i64.wrap ((i : Int) + 1) = (i : Int) + 1 := by rw [IntKind.wrap_i64]; omega
  have hb1 : (0 : Int) ≤ (i : Int) + 1 := by omega
  have hin : i ≤ l.length := by omega
  have htn : ((i : Int) + 1).toNat = i + 1 := by omega
  have hb2 : ¬ (G = i + 1) := by omega
  have hb3 : (i : Int) ≤ (l.length : Int) := by omega
  have hb4 : ¬ (cap = i) := by omega
  have hb5 : ¬ (G = i) := by omega
  have hz2 : ¬ ((i : Int) = (l.length : Int)) := by omega
  have hz3 : (cap : Int) < (l.length : Int) + 1 := by omega
  go_enter Try.func82, Try.ntmps82
  go_wp2_with (first
    | (at_builtin; refine Lib.wpList_append_run _ rfl _ _ _ _ rfl _ _ rfl rfl _ _ (hrz _) ?_)
    | (at_builtin; refine Kd.wpList_copy_k _ rfl _ _ 24 24 rfl _ _ rfl rfl (hcp1 _ _) ?_))
  go_region_law (refine Kd.step_copy_k rfl _ _ 24 24 rfl _ _ (by simp [Act.eval, Act.put]) (by simp [Act.eval, Act.put]) (hcp2 _ _ _) ?_)
  go_wp2
  go_ret
  obtain ⟨h1, h2, h3, h4, h5, h6⟩ := HE.out
  exact ⟨w.heap.size, G, c2, rfl, Nat.le_refl _, h1, h2, h3, h4, h5, h6⟩
set_option maxHeartbeats 8000000 in
set_option maxRecDepth 100000 in
theorem pk_end (P0_ : Nat → Prop) (u : Value) (l : List S53) (vb : Nat) (p : S53) (w0 w : World) (hB : Below w0.heap.size w0 w) (ho : Kd.R k53 53 w w0.heap.size P0_ u l) (hv : w.heap[vb]? = some (.cells #[.string p.f0, .string p.f1] 53 (0, 0))) (hbig : (l.length + 1) * 32 ≤ 140737488355328) :
    Calls Try.prog 82 #[u, .int .i64 (l.length : Int), .slice (some ⟨vb, 0, none⟩) 1 1] w fun e w' => ∃ v0_ : Value, e = .returned (v0_) ∧ Kd.R k53 53 w' w0.heap.size (fun k_ => (P0_ k_ ∨ w.heap.size ≤ k_)) v0_ (l ++ [p]) ∧ Below w0.heap.size w0 w' ∧ Kept w w' (fun k_ => P0_ k_) := by
  have HO := Aside0.mk (show Kd.R k53 53 w w0.heap.size (fun k_ => (P0_ k_ ∨ w.heap.size ≤ k_)) u l from Kd.R_mono ho (fun k_ hk => (.inl hk)))
  have HP := Aside0.mk ho.1
  have hcv : Kd.C k53 w (some ⟨vb, 0, none⟩) ([p] : List S53).length [p] :=
    (Kd.R_reads' (Kd.raw_R (d := k53) pk_flat (xs := [p]) (g := vb) (cap := 1) (base := 0) (ok := fun _ => True) trivial (Nat.zero_le _) hv (Nat.le_refl _) (by simp [maxLen]) rfl rfl)).2.2
  have HCV := Aside0.mk hcv
  have HB := Aside0.mk hB
  have HL := Aside0.mk hbig
  have hraw := Kd.R_raw (d := k53) pk_flat ho
  clear ho hcv hB hv
  have fin : ∀ v1 w1, Kd.R k53 53 w1 w0.heap.size (fun k_ => (P0_ k_ ∨ w.heap.size ≤ k_)) v1 (l ++ [p]) → Below w0.heap.size w0 w1 → w.grownBy w1 u.ownBlock → ∃ v0_ : Value, Ending.returned v1 = .returned (v0_) ∧ Kd.R k53 53 w1 w0.heap.size (fun k_ => (P0_ k_ ∨ w.heap.size ≤ k_)) v0_ (l ++ [p]) ∧ Below w0.heap.size w0 w1 ∧ Kept w w1 (fun k_ => P0_ k_) :=
    fun v1 w1 h1 h2 h3 => ⟨v1, rfl, h1, h2, Kept.of_grown h3 (Kept.refl w _) (fun k e => .inl (HP.out k e))⟩
  have FIN := Aside0.mk fin
  clear fin
  rcases hraw with ⟨hu, hnil⟩ | ⟨g, cap, cur, hu, _, _, _, hnc, hcm, _, _⟩
  · subst hu
    subst hnil
    go_enter Try.func82, Try.ntmps82
    go_wp2_with ((with_reducible refine gate_builtin (b := .append) (xs := #[.tmp 23, .tmp 24]) rfl ?_); at_builtin; refine Kd.R_append_rows k53 (w0 := w0) w0.heap.size rfl (.tmp 23) (.tmp 24) 24 53 (.agg #[(.string ⟨#[]⟩), (.string ⟨#[]⟩)]) 32 rfl Try.underlying24 info53 rfl (by decide) (by omega) (.slice none 0 0) [] [p] _ _ _ (fun k_ => (P0_ k_ ∨ w.heap.size ≤ k_)) (fun _ => False) rfl rfl ?aO ?aR (fun _ _ h => h) (fun _ h => h.elim) ?aF ?aB ?aS ?aL ?_; (case aR => exact HCV.out); (case aB => exact HB.out); (case aF => exact (fun _ h => .inr h)); (case aO => exact HO.out); (case aS => exact HB.out.size); (case aL => exact HL.out); intro v1 w1 ho1 hb1 hg1 hat1; have H1 := Aside0.mk (And.intro ho1 (And.intro hb1 hg1)); clear ho1 hb1 hg1 hat1)
    go_ret
    exact FIN.out _ _ H1.out.1 H1.out.2.1 H1.out.2.2
  · subst hu
    have hmax := pk_max hcm
    have key : ∀ (b : Bool), decide (cap = l.length) = b → Calls Try.prog 82 #[.slice (some ⟨g, 0, none⟩) l.length cap, .int .i64 (l.length : Int), .slice (some ⟨vb, 0, none⟩) 1 1] w fun e w' => ∃ v0_ : Value, e = .returned (v0_) ∧ Kd.R k53 53 w' w0.heap.size (fun k_ => (P0_ k_ ∨ w.heap.size ≤ k_)) v0_ (l ++ [p]) ∧ Below w0.heap.size w0 w' ∧ Kept w w' (fun k_ => P0_ k_) := by
      intro b hb
      cases b with
      | true =>
        have hc : cap = l.length := of_decide_eq_true hb
        clear hb
        go_enter Try.func82, Try.ntmps82
        subst hc
        go_wp2_with ((with_reducible refine gate_builtin (b := .append) (xs := #[.tmp 23, .tmp 24]) rfl ?_); at_builtin; refine Kd.R_append_rows k53 (w0 := w0) w0.heap.size rfl (.tmp 23) (.tmp 24) 24 53 (.agg #[(.string ⟨#[]⟩), (.string ⟨#[]⟩)]) 32 rfl Try.underlying24 info53 rfl (by decide) (by omega) (.slice (some ⟨g, 0, none⟩) l.length l.length) l [p] _ _ _ (fun k_ => (P0_ k_ ∨ w.heap.size ≤ k_)) (fun _ => False) rfl rfl ?aO ?aR (fun _ _ h => h) (fun _ h => h.elim) ?aF ?aB ?aS ?aL ?_; (case aR => exact HCV.out); (case aB => exact HB.out); (case aF => exact (fun _ h => .inr h)); (case aO => exact HO.out); (case aS => exact HB.out.size); (case aL => exact HL.out); intro v1 w1 ho1 hb1 hg1 hat1; have H1 := Aside0.mk (And.intro ho1 (And.intro hb1 hg1)); clear ho1 hb1 hg1 hat1)
        go_ret
        exact FIN.out _ _ H1.out.1 H1.out.2.1 H1.out.2.2
      | false =>
        have hc : ¬ cap = l.length := of_decide_eq_false hb
        clear hb
        go_enter Try.func82, Try.ntmps82
        go_wp2_with ((with_reducible refine gate_builtin (b := .append) (xs := #[.tmp 23, .tmp 24]) rfl ?_); at_builtin; refine Kd.R_append_rows k53 (w0 := w0) w0.heap.size rfl (.tmp 23) (.tmp 24) 24 53 (.agg #[(.string ⟨#[]⟩), (.string ⟨#[]⟩)]) 32 rfl Try.underlying24 info53 rfl (by decide) (by omega) (.slice (some ⟨g, 0, none⟩) l.length cap) l [p] _ _ _ (fun k_ => (P0_ k_ ∨ w.heap.size ≤ k_)) (fun _ => False) rfl rfl ?aO ?aR (fun _ _ h => h) (fun _ h => h.elim) ?aF ?aB ?aS ?aL ?_; (case aR => exact HCV.out); (case aB => exact HB.out); (case aF => exact (fun _ h => .inr h)); (case aO => exact HO.out); (case aS => exact HB.out.size); (case aL => exact HL.out); intro v1 w1 ho1 hb1 hg1 hat1; have H1 := Aside0.mk (And.intro ho1 (And.intro hb1 hg1)); clear ho1 hb1 hg1 hat1)
        go_ret
        exact FIN.out _ _ H1.out.1 H1.out.2.1 H1.out.2.2
    exact key _ rfl
/-- slices.Insert(l, i, p), of a row of the call's own. -/
theorem pk_insert (P0_ : Nat → Prop) (u : Value) (l : List S53) (i vb : Nat) (p : S53) (w0 w : World) (hB : Below w0.heap.size w0 w) (ho : Kd.R k53 53 w w0.heap.size P0_ u l) (hi : i ≤ l.length) (hv : w.heap[vb]? = some (.cells #[.string p.f0, .string p.f1] 53 (0, 0))) (hne : some vb ≠ u.ownBlock) (hbig : (l.length + 1) * 32 ≤ 140737488355328) :
    Calls Try.prog 82 #[u, .int .i64 (i : Int), .slice (some ⟨vb, 0, none⟩) 1 1] w fun e w' => ∃ v0_ : Value, e = .returned (v0_) ∧ Kd.R k53 53 w' w0.heap.size (fun k_ => (P0_ k_ ∨ w.heap.size ≤ k_)) v0_ (l.take i ++ [p] ++ l.drop i) ∧ Below w0.heap.size w0 w' ∧ Kept w w' (fun k_ => P0_ k_) := by
  by_cases h : i = l.length
  · subst h
    rw [List.take_length, List.drop_length, List.append_nil]
    exact pk_end P0_ u l vb p w0 w hB ho hv hbig
  · have hlt : i < l.length := by omega
    have hP := ho.1
    have hbs := Kd.R_base ho
    have hlen : (l.take i ++ [p] ++ l.drop i).length = l.length + 1 := by simp; omega
    rcases Kd.R_raw (d := k53) pk_flat ho with ⟨hu, hnil⟩ | ⟨g, cap, cur, hu, hok, hbg, hrow, hnc, hcm, hsz, hcs⟩
    · rw [hnil] at hlt; simp at hlt
    · subst hu
      have hgb : ∀ w', w.grownBy w' (some g) → Below w0.heap.size w0 w' ∧ Kept w w' (fun k_ => P0_ k_) := fun w' hg =>
        ⟨⟨hg.os.trans hB.os, hg.tape.trans hB.tape, hg.output.trans hB.output, Nat.le_trans hB.size hg.size, fun k hk => (hg.block k (Nat.lt_of_lt_of_le hk hB.size) (fun e => by injection e with e; omega)).trans (hB.block k hk)⟩,
          Kept.of_grown hg (Kept.refl w _) (fun k e => by injection e with e; subst e; exact .inl hok)⟩
      have hne2 : vb ≠ g := fun e => hne (by rw [e]; rfl)
      by_cases hroom : l.length + 1 ≤ cap
      · refine (pk_shift g cap cur l i vb p w hrow hsz hroom (pk_max hcm) hcs hlt hv hne2).mono ?_
        rintro e w' ⟨rfl, cur', h1, h2, h3, h4⟩
        obtain ⟨h5, h6⟩ := hgb w' h4
        refine ⟨_, rfl, ?_, h5, h6⟩
        have := Kd.raw_R (d := k53) pk_flat (xs := l.take i ++ [p] ++ l.drop i) (g := g) (cap := cap) (base := w0.heap.size) (ok := fun k_ => (P0_ k_ ∨ w.heap.size ≤ k_)) (.inl hok) hbg h1 (by rw [hlen]; exact hroom) hcm h2 (by rw [hlen]; exact h3)
        rw [hlen] at this
        exact this
      · refine (pk_grow g cap cur l i vb p w hrow hsz hnc (by omega) hbig hcs hlt hv).mono ?_
        rintro e w' ⟨g', cap', cur', rfl, h0, h1, h2, h3, h4, h7, h8⟩
        obtain ⟨h5, h6⟩ := hgb w' h8
        refine ⟨_, rfl, ?_, h5, h6⟩
        have := Kd.raw_R (d := k53) pk_flat (xs := l.take i ++ [p] ++ l.drop i) (g := g') (cap := cap') (base := w0.heap.size) (ok := fun k_ => (P0_ k_ ∨ w.heap.size ≤ k_)) (.inr h0) (Nat.le_trans hB.size h0) h1 (by rw [hlen]; exact h2) h3 h4 (by rw [hlen]; exact h7)
        rw [hlen] at this
        exact this
theorem pk_set : ∀ (l : List S53) (m : Nat) (h : m < l.length) (v : ByteArray), (Kd.fcs pk_cs l).set (m * 2 + 1) (.string v) = Kd.fcs pk_cs (l.set m ⟨l[m].f0, v⟩)
  | [], m, h, v => by simp at h
  | p :: l, 0, h, v => rfl
  | p :: l, m + 1, h, v => by
    have ih := pk_set l m (by simpa using h) v
    have e : Kd.fcs pk_cs (p :: l) = .string p.f0 :: .string p.f1 :: Kd.fcs pk_cs l := rfl
    have e2 : (m + 1) * 2 + 1 = (m * 2 + 1) + 1 + 1 := by omega
    rw [e, e2, List.set_cons_succ, List.set_cons_succ, ih]
    rfl
/-- The place at which a key goes in. -/
def pk_at (key : List UInt8) : List S53 → Nat
  | [] => 0
  | p :: l => if Op.bytesLess key p.f0.toList = true then 0 else pk_at key l + 1
theorem pk_at_le (key : List UInt8) : ∀ l : List S53, pk_at key l ≤ l.length
  | [] => Nat.le_refl _
  | p :: l => by
    have := pk_at_le key l
    unfold pk_at
    split
    · omega
    · simp; omega
theorem pk_at_step (l : List S53) (key : List UInt8) (i : Nat) (h : i < l.length) :
    pk_at key (l.drop i) = if Op.bytesLess key (rd_T53 l (i : Int)).f0.toList = true then 0 else pk_at key (l.drop (i + 1)) + 1 := by
  rw [List.drop_eq_getElem_cons h]
  have e : rd_T53 l (i : Int) = l[i] := by
    unfold rd_T53
    simp [List.getD_eq_getElem?_getD, h]
  rw [e]
  rfl
def pk_M (l0 : List S53) (a1 : ByteArray) (a2 : ByteArray) : List S53 :=
  if pairIdx l0 a1.toList 0 < 0 then l0.take (pk_at a1.toList l0) ++ [⟨a1, a2⟩] ++ l0.drop (pk_at a1.toList l0) else l0.set (pairIdx l0 a1.toList 0).toNat ⟨(rd_T53 l0 (pairIdx l0 a1.toList 0)).f0, a2⟩
theorem pk_idx_lt (key : List UInt8) : ∀ (l : List S53) (i : Int), 0 ≤ i → pairIdx l key i < i + l.length ∧ (pairIdx l key i = -1 ∨ i ≤ pairIdx l key i)
  | [], i, h => ⟨by unfold pairIdx; simp; omega, .inl rfl⟩
  | p :: l, i, h => by
    unfold pairIdx
    split
    · exact ⟨by simp; omega, .inr (Int.le_refl _)⟩
    · have := pk_idx_lt key l (i + 1) (by omega)
      exact ⟨by simp; omega, by omega⟩
def impl_putKey.f (l0 : List S53) (a1 : ByteArray) (a2 : ByteArray) : Option (List S53) := if l0.length < 4398046511104 then some (pk_M l0 a1 a2) else none
set_option maxHeartbeats 8000000 in
set_option maxRecDepth 100000 in
theorem impl_putKey.calls (P0_ : Nat → Prop) (u9000_ : Value) (l0 : List S53) (a1 : ByteArray) (a2 : ByteArray) (r : List S53) (w0 w : World) (hB : Below w0.heap.size w0 w) (ho0 : Kd.R k53 53 w w0.heap.size P0_ u9000_ l0) (h : impl_putKey.f l0 a1 a2 = some r) :
    Calls Try.prog 58 #[u9000_, .string a1, .string a2] w fun e w' => ∃ v0_ : Value, e = .returned (v0_) ∧ Kd.R k53 53 w' w0.heap.size (fun k_ => (P0_ k_ ∨ w.heap.size ≤ k_)) v0_ r ∧ Below w0.heap.size w0 w' ∧ Kept w w' (fun k_ => P0_ k_) := by
  unfold impl_putKey.f at h
  by_cases c3 : l0.length < 4398046511104
  rotate_left
  · rw [if_neg c3] at h; exact absurd h (by simp)
  rw [if_pos c3] at h
  obtain rfl := Option.some.inj h
  clear h
  obtain ⟨A0, c0, rfl⟩ := Kd.R_slice ho0
  have hrd := Kd.R_reads' ho0
  have HO := Aside0.mk ho0
  have HB := Aside0.mk hB
  have HPA := Aside0.mk (impl_pairAt.calls A0 c0 l0 a1 _ w hrd.2.2 hrd.2.1 rfl)
  have HC := Aside0.mk hrd.2.2
  have HL := Aside0.mk c3
  have hlen : l0.length ≤ 4398046511104 := by omega
  have hix := pk_idx_lt a1.toList l0 0 (Int.le_refl _)
  unfold pk_M
  obtain ⟨ix, hixe⟩ : ∃ ix, pairIdx l0 a1.toList 0 = ix := ⟨_, rfl⟩
  rw [hixe] at hix HPA ⊢
  clear hixe
  by_cases hneg : ix < 0
  · rw [if_pos hneg]
    have hix1 : ix = -1 := by omega
    subst hix1
    clear hneg hix ho0 hB hrd c3
    go_enter Try.func58, Try.ntmps58
    go_wp2_with (with_reducible (go_at_call 61; refine HPA.out.mono ?_; rintro e w1 ⟨rfl, hb1⟩; have HB1 := Aside0.mk hb1; clear hb1))
    go_loopw [8] (fun v8 wr => ∃ i : Nat, v8 = .int .i64 (i : Int) ∧ i ≤ l0.length ∧ Aside0 (pk_at a1.toList l0 = i + pk_at a1.toList (l0.drop i)) ∧ Aside0 (Below w.heap.size w wr)) (fun v8 _ => l0.length - (intOf v8).toNat)
    case atStart => exact ⟨0, rfl, Nat.zero_le _, ⟨by rw [Nat.zero_add]; rfl⟩, ⟨HB1.out⟩⟩
    case round =>
      obtain ⟨i, rfl, hi, HI, HBW⟩ := hrel
      have ins : ∀ e : pk_at a1.toList (l0.drop i) = 0, Calls Try.prog 82 #[.slice A0 l0.length c0, .int .i64 (i : Int), .slice (some ⟨wr.heap.size, 0, none⟩) 1 1] (wr.alloc (.cells #[.string a1, .string a2] 53)) fun e w' => ∃ v0_ : Value, e = .returned (v0_) ∧ Kd.R k53 53 w' w0.heap.size (fun k_ => (P0_ k_ ∨ w.heap.size ≤ k_)) v0_ (l0.take (pk_at a1.toList l0) ++ [⟨a1, a2⟩] ++ l0.drop (pk_at a1.toList l0)) ∧ Below w0.heap.size w0 w' ∧ Kept w w' (fun k_ => P0_ k_) := by
        intro e
        have hpi : pk_at a1.toList l0 = i := by rw [HI.out, e]; rfl
        rw [hpi]
        have hba : Below w.heap.size w (wr.alloc (.cells #[.string a1, .string a2] 53)) := HBW.out.alloc HBW.out.size _
        have hsz := HBW.out.size
        refine (pk_insert P0_ (.slice A0 l0.length c0) l0 i wr.heap.size ⟨a1, a2⟩ w0 (wr.alloc (.cells #[.string a1, .string a2] 53)) (below_then HB.out HB.out.size hba) (Kd.R_below HO.out hba) hi (heap_alloc_new wr _) (fun e2 => by have := Kd.R_lt HO.out _ e2.symm; omega) (by have := HL.out; omega)).mono ?_
        rintro e w' ⟨v, h1, h2, h3, h4⟩
        refine ⟨v, h1, Kd.R_mono h2 (fun k hk => Or.elim hk .inl (fun h => .inr (Nat.le_trans hba.size h))), h3, (Kept.of_below hba (fun k_ => P0_ k_)).then_ h4 (fun k hk => .inl hk)⟩
      have INS := Aside0.mk ins
      clear ins
      by_cases hlt : i < l0.length
      · obtain ⟨ad104, e104, hx104_0, hx104_1⟩ := at_T53 HC.out (i : Int) (by omega) (by omega)
        cases e104
        simp only [Int.toNat_natCast] at hx104_0 hx104_1
        replace hx104_0 := (HBW.out.cell (World.block_lt_of_cell? w _ hx104_0)).trans hx104_0
        replace hx104_1 := (HBW.out.cell (World.block_lt_of_cell? w _ hx104_1)).trans hx104_1
        have HS := Aside0.mk (pk_at_step l0 a1.toList i hlt)
        cases hbl : Op.bytesLess a1.toList (rd_T53 l0 (i : Int)).f0.toList with
        | true =>
          have he : pk_at a1.toList (l0.drop i) = 0 := by rw [HS.out, if_pos hbl]
          have HX := Aside0.mk (INS.out he)
          clear he
          go_wp2_with (with_reducible (go_at_call 82; refine HX.out.mono ?_; rintro e w5 ⟨v5, rfl, h5⟩; have H5 := Aside0.mk h5; clear h5))
          go_ret
          exact ⟨_, rfl, H5.out⟩
        | false =>
          have he : pk_at a1.toList (l0.drop i) = pk_at a1.toList (l0.drop (i + 1)) + 1 := by rw [HS.out, if_neg (by rw [hbl]; simp)]
          have HX := Aside0.mk he
          clear he
          go_wp2
          have hw : (i : Int) + 1 = ((i + 1 : Nat) : Int) := by omega
          refine ⟨⟨i + 1, congrArg _ hw, by omega, ⟨by rw [HI.out, HX.out]; omega⟩, ⟨HBW.out⟩⟩, ?_⟩
          rw [hw]
          show l0.length - (((i + 1 : Nat) : Int)).toNat < l0.length - ((i : Int)).toNat
          omega
      · obtain rfl : i = l0.length := by omega
        have he : pk_at a1.toList (l0.drop l0.length) = 0 := by rw [List.drop_length]; rfl
        have HX := Aside0.mk (INS.out he)
        clear he
        go_wp2_with (with_reducible (go_at_call 82; refine HX.out.mono ?_; rintro e w5 ⟨v5, rfl, h5⟩; have H5 := Aside0.mk h5; clear h5))
        go_ret
        exact ⟨_, rfl, H5.out⟩
  · rw [if_neg hneg]
    obtain ⟨m, rfl⟩ : ∃ m : Nat, ix = (m : Int) := ⟨ix.toNat, by omega⟩
    have hm : m < l0.length := by omega
    have hraw := Kd.R_raw (d := k53) pk_flat ho0
    rcases hraw with ⟨hu, hnil⟩ | ⟨g, cap, cur, hu, hok, hbg, hrow, hnc, hcm, hsz, hcs⟩
    · rw [hnil] at hm; simp at hm
    injection hu with hA _ hc
    subst hA hc
    have hsz2 : cur.size = c0 * 2 := hsz
    have hj : m * 2 + 1 < cur.size := by omega
    have hgw : g < w.heap.size := (Array.getElem?_eq_some_iff.1 hrow).1
    have hst : ∀ w2, Below w.heap.size w w2 → w2.cell? ⟨g, m * 2 + 1, none⟩ = some (cur[m * 2 + 1]'hj) ∧ w2.frozen? ⟨g, m * 2 + 1, none⟩ = false := fun w2 hb => by
      have hr2 : w2.heap[g]? = some (.cells cur 53 (0, 0)) := (hb.block g hgw).trans hrow
      refine ⟨?_, blk_frozen hr2 _⟩
      rw [cell_of_row w2 g _ cur _ _ hr2, Array.getElem?_eq_getElem]
    have HST := Aside0.mk hst
    have HR := Aside0.mk (And.intro hrow (And.intro hsz2 (And.intro hcs (And.intro hbg (And.intro hok hcm)))))
    have hrdm : rd_T53 l0 (m : Int) = l0[m] := by
      unfold rd_T53
      simp [List.getD_eq_getElem?_getD, hm]
    rw [hrdm, Int.toNat_natCast]
    have HNN := Aside0.mk (show ¬ ((m : Int) < 0) from by omega)
    have hge : (0 : Int) ≤ (m : Int) := by omega
    clear hst hrow hsz hsz2 hcs hok hcm hneg hix ho0 hB hrd c3 hrdm
    generalize cur[m * 2 + 1]'hj = old at HST
    go_enter Try.func58, Try.ntmps58
    go_wp2_with (with_reducible (go_at_call 61; refine HPA.out.mono ?_; rintro e w1 ⟨rfl, hb1⟩; obtain ⟨y0, y1⟩ := HST.out w1 hb1; have HB1 := Aside0.mk hb1; clear hb1))
    go_ret
    obtain ⟨hrow, hsz2, hcs, hbg2, hok, hcm⟩ := HR.out
    have hr1 : w1.heap[g]? = some (.cells cur 53 (0, 0)) := (HB1.out.block g hgw).trans hrow
    have hb1 := below_then HB.out HB.out.size HB1.out
    refine ⟨_, rfl, ?_, below_set hb1 hbg2, ((Kept.of_below HB1.out (fun k_ => P0_ k_)).setCell (.inl hok) _)⟩
    have hR := Kd.raw_R (d := k53) pk_flat (w := w1.setCell ⟨g, m * 2 + 1, none⟩ (.string a2)) (xs := l0.set m ⟨l0[m].f0, a2⟩) (g := g) (cap := c0) (cur := cur.setIfInBounds (m * 2 + 1) (.string a2)) (base := w0.heap.size) (ok := fun k_ => (P0_ k_ ∨ w.heap.size ≤ k_)) (.inl hok) hbg2
      (blk_set hr1 _ _) (by rw [List.length_set]; exact hnc) hcm (by rw [Array.size_setIfInBounds]; exact hsz2)
      (by rw [List.length_set, Array.toList_setIfInBounds, List.take_set, hcs]; exact pk_set l0 m hm a2)
    rw [List.length_set] at hR
    exact hR


end Go.Proofs.Ytamkjoflkkffhaa.P
