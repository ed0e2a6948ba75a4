-- Written by wip/xp/xp.py over the kit's print; Lean checks it.
import Derived.Test.YtamkjoflkkffhaaPx0
import Derived.Test.YtamkjoflkkffhaaPx6
namespace Go.Proofs.Ytamkjoflkkffhaa.P
open Go.RowKit Go.Proofs.YtamkjoflkkffhaaW.PrintWords Go.Proofs.YtamkjoflkkffhaaW.PrintLast Go.Proofs.YtamkjoflkkffhaaW.PrintMore
attribute [local go_sem] max2_int min2_int max_two min_two max_three min_three max_four min_four   -- for this text's walks alone
set_option linter.unusedVariables false
set_option linter.unusedSimpArgs false

/-! ### impl_DelKey: function 13 -/
-- by hand
def dk_cs (p : S53) : List Value := [.string p.f0, .string p.f1]
theorem dk_flat : Kd.Flat k53 dk_cs := ⟨fun w base ok x c => ⟨fun h => k53_openM h, fun h => by rw [h]; exact k53_mkM w base ok x⟩⟩
theorem dk_two (p : S53) : (dk_cs p).length = 2 := rfl
/-- The place of the first pair of a key, from a place on; -1 without one. -/
def dk_idx : List S53 → List UInt8 → Int → Int
  | [], _, _ => -1
  | p :: l, key, i => if p.f0.toList = key then i else dk_idx l key (i + 1)
def dk_q (key : ByteArray) (p : S53) : Bool := !(p.f0.toList == key.toList)
def impl_DelKey.f (l0 : List S53) (a1 : ByteArray) : Option (List S53) := if l0.length < 4398046511104 then some (l0.filter (dk_q a1)) else none
theorem dk_step (l : List S53) (key : List UInt8) (i : Nat) (h : i < l.length) :
    dk_idx (l.drop i) key i = if (rd_T53 l (i : Int)).f0.toList = key then (i : Int) else dk_idx (l.drop (i + 1)) key ((i + 1 : Nat) : Int) := by
  rw [List.drop_eq_getElem_cons h]
  have e : rd_T53 l (i : Int) = l[i] := by
    unfold rd_T53
    simp [List.getD_eq_getElem?_getD, h]
  rw [e]
  rfl
/-- What the search finds: none, or the first. -/
theorem dk_found (key : ByteArray) : ∀ (l : List S53) (i : Nat), (dk_idx l key.toList i = -1 ∧ l.filter (dk_q key) = l) ∨
    ∃ k, k < l.length ∧ dk_idx l key.toList i = ((i + k : Nat) : Int) ∧ (l.take k).filter (dk_q key) = l.take k ∧ ∃ h : k < l.length, dk_q key l[k] = false
  | [], i => .inl ⟨rfl, rfl⟩
  | p :: l, i => by
    by_cases hp : p.f0.toList = key.toList
    · refine .inr ⟨0, by simp, ?_, rfl, by simp, ?_⟩
      · simp [dk_idx, hp]
      · simp [dk_q, hp]
    · have hq : dk_q key p = true := by simp [dk_q, hp]
      have e : dk_idx (p :: l) key.toList i = dk_idx l key.toList ((i + 1 : Nat) : Int) := by simp [dk_idx, hp]
      rcases dk_found key l (i + 1) with ⟨h1, h2⟩ | ⟨k, hk, h1, h2, h3, h4⟩
      · exact .inl ⟨by rw [e, h1], by rw [List.filter_cons, if_pos hq, h2]⟩
      · refine .inr ⟨k + 1, by simpa using hk, by rw [e, h1]; congr 1; omega, ?_, by simpa using hk, by simpa using h4⟩
        rw [List.take_succ_cons, List.filter_cons, if_pos hq, h2]
set_option maxHeartbeats 8000000 in
set_option maxRecDepth 100000 in
theorem dk_lit (p : S53) (B : Nat) (key : ByteArray) (w : World) (hk : w.cell? ⟨B, 0, none⟩ = some (.string key)) :
    Calls Try.prog 48 #[.agg #[.string p.f0, .string p.f1], .pointer (some ⟨B, 0, none⟩)] w fun e w' => e = .returned (.bool (p.f0.toList == key.toList)) ∧ Below w.heap.size w w' := by
  have hB := World.block_lt_of_cell? w _ hk
  have hu := Try.underlying53
  go_enter Try.func48, Try.ntmps48
  go_wp2
  go_ret
  exact ⟨rfl, by repeat (first | exact Below.refl _ _ | apply below_alloc | apply pw_below_drewN | apply below_drew1)⟩
set_option maxHeartbeats 8000000 in
set_option maxRecDepth 100000 in
theorem dk_index (A0 : Option Addr) (c0 : Nat) (l0 : List S53) (B : Nat) (key : ByteArray) (w : World) (hr0 : Kd.C k53 w A0 l0.length l0) (hc0 : l0.length ≤ c0) (hkey : w.cell? ⟨B, 0, none⟩ = some (.string key)) :
    Calls Try.prog 74 #[.slice A0 l0.length c0, .func (.func 48) #[] #[.pointer (some ⟨B, 0, none⟩)]] w fun e w' => e = .returned (.int .i64 (dk_idx l0 key.toList 0)) ∧ Below w.heap.size w w' := by
  have HR0 := Aside0.mk hr0
  have HC0 := Aside0.mk hc0
  have HK := Aside0.mk hkey
  have hlen : l0.length ≤ 9223372036854775807 := hr0.2.1
  clear hr0 hc0 hkey
  obtain ⟨r, hr⟩ : ∃ r, r = dk_idx l0 key.toList 0 := ⟨_, rfl⟩
  rw [← hr]
  have HRR := Aside0.mk hr
  clear hr
  go_enter Try.func74, Try.ntmps74
  go_wp2
  go_loopw [8] (fun v8 wr => ∃ i : Nat, v8 = .int .i64 (i : Int) ∧ i ≤ l0.length ∧ Aside0 (r = dk_idx (l0.drop i) key.toList i) ∧ Aside0 (Below w.heap.size w wr)) (fun v8 _ => l0.length - (intOf v8).toNat)
  case atStart => exact ⟨0, rfl, Nat.zero_le _, ⟨HRR.out⟩, ⟨Below.refl _ _⟩⟩
  case round =>
    obtain ⟨i, rfl, hi, HI, HB⟩ := hrel
    by_cases hlt : i < l0.length
    · obtain ⟨ad104, e104, hx104_0, hx104_1⟩ := at_T53 HR0.out (i : Int) (by omega) (by omega)
      cases e104
      simp only [Int.toNat_natCast] at hx104_0 hx104_1
      replace hx104_0 := (HB.out.cell (World.block_lt_of_cell? w _ hx104_0)).trans hx104_0
      replace hx104_1 := (HB.out.cell (World.block_lt_of_cell? w _ hx104_1)).trans hx104_1
      have hk := (HB.out.cell (World.block_lt_of_cell? w _ HK.out)).trans HK.out
      have HS := Aside0.mk (dk_step l0 key.toList i hlt)
      by_cases he : (rd_T53 l0 (i : Int)).f0.toList = key.toList
      · have heb : ((rd_T53 l0 (i : Int)).f0.toList == key.toList) = true := beq_iff_eq.mpr he
        have HE := Aside0.mk he
        clear he
        go_wp2_with (go_at_call 48; refine (dk_lit (rd_T53 l0 (i : Int)) B key _ (by assumption)).mono ?_; rintro e w1 ⟨rfl, hb1⟩; have HB1 := Aside0.mk hb1; clear hb1)
        go_ret
        have er : r = (i : Int) := by rw [HI.out, HS.out, if_pos HE.out]
        exact ⟨by rw [er]; rfl, below_then HB.out HB.out.size HB1.out⟩
      · have heb : ((rd_T53 l0 (i : Int)).f0.toList == key.toList) = false := beq_eq_false_iff_ne.mpr he
        have HE := Aside0.mk he
        clear he
        go_wp2_with (go_at_call 48; refine (dk_lit (rd_T53 l0 (i : Int)) B key _ (by assumption)).mono ?_; rintro e w1 ⟨rfl, hb1⟩; have HB1 := Aside0.mk hb1; clear hb1)
        go_roundw
        case rel => exact ⟨i + 1, by go_num, by omega, ⟨by rw [HI.out, HS.out, if_neg HE.out]⟩, ⟨below_then HB.out HB.out.size HB1.out⟩⟩
        case measure => simp [intOf]; omega
    · obtain rfl : i = l0.length := by omega
      go_wp2
      go_ret
      have er : r = -1 := by rw [HI.out, List.drop_length]; rfl
      exact ⟨by rw [er]; rfl, HB.out⟩
theorem dk_info : (Try.prog.info? 53).map (·.size) = some 2 := by kernel_rfl
theorem dk_zero : ∀ w, (zeroValue 53).run Try.prog w = .ok (.agg #[.string ⟨#[]⟩, .string ⟨#[]⟩]) w := fun w => by kernel_rfl
theorem dk_cells (l : List S53) (j : Nat) (h : j < l.length) : (Kd.fcs dk_cs l)[j * 2]? = some (.string (rd_T53 l (j : Int)).f0) ∧ (Kd.fcs dk_cs l)[j * 2 + 1]? = some (.string (rd_T53 l (j : Int)).f1) := by
  have e : rd_T53 l (j : Int) = l[j] := by
    unfold rd_T53
    simp [List.getD_eq_getElem?_getD, h]
  have e1 : l.drop j = l[j] :: l.drop (j + 1) := List.drop_eq_getElem_cons h
  have e2 : Kd.fcs dk_cs (l[j] :: l.drop (j + 1)) = .string l[j].f0 :: .string l[j].f1 :: Kd.fcs dk_cs (l.drop (j + 1)) := rfl
  have e3 := Kd.fcs_drop dk_two j l
  rw [e1, e2] at e3
  have g0 : ((Kd.fcs dk_cs l).drop (j * 2))[0]? = some (.string l[j].f0) := by rw [e3]; rfl
  have g1 : ((Kd.fcs dk_cs l).drop (j * 2))[1]? = some (.string l[j].f1) := by rw [e3]; rfl
  rw [List.getElem?_drop] at g0 g1
  rw [e]
  exact ⟨by simpa using g0, g1⟩
/-- The loop's state: what stands in the row when j are seen. -/
structure DkInv (w0 : World) (g cap n : Nat) (l : List S53) (key : ByteArray) (i j : Nat) (cur : Array Value) (w : World) : Prop where
  row : w.heap[g]? = some (.cells cur 53 (0, 0))
  size : cur.size = cap * 2
  low : cur.toList.take (i * 2) = Kd.fcs dk_cs ((l.take j).filter (dk_q key))
  len : i = ((l.take j).filter (dk_q key)).length
  high : ∀ m, j * 2 ≤ m → m < n * 2 → cur.toList[m]? = (Kd.fcs dk_cs l)[m]?
  lt : i < j
  grown : w0.grownBy w (some g)
theorem dk_filter_step (l : List S53) (key : ByteArray) (j : Nat) (h : j < l.length) : (l.take (j + 1)).filter (dk_q key) = if dk_q key (rd_T53 l (j : Int)) then (l.take j).filter (dk_q key) ++ [rd_T53 l (j : Int)] else (l.take j).filter (dk_q key) := by
  have e : rd_T53 l (j : Int) = l[j] := by
    unfold rd_T53
    simp [List.getD_eq_getElem?_getD, h]
  rw [e, List.take_succ_eq_append_getElem h, List.filter_append]
  by_cases c : dk_q key l[j] = true
  · rw [if_pos c]; simp [c]
  · rw [if_neg c]; simp [c]
theorem DkInv.skip {w0 w w1 : World} {g cap n i j : Nat} {l : List S53} {key : ByteArray} {cur : Array Value} (h : DkInv w0 g cap n l key i j cur w) (hj : j < l.length) (hq : dk_q key (rd_T53 l (j : Int)) = false) (hg : g < w.heap.size) (hw : Below w.heap.size w w1) : DkInv w0 g cap n l key i (j + 1) cur w1 := by
  have e := dk_filter_step l key j hj
  rw [if_neg (by rw [hq]; simp)] at e
  exact ⟨(hw.block g hg).trans h.row, h.size, by rw [e]; exact h.low, by rw [e]; exact h.len, fun m h1 h2 => h.high m (by omega) h2, by have := h.lt; omega, h.grown.then (World.grownBy.ofBelow hw)⟩
theorem DkInv.keep {w0 w w1 : World} {g cap n i j : Nat} {l : List S53} {key : ByteArray} {cur : Array Value} (h : DkInv w0 g cap n l key i j cur w) (hj : j < l.length) (hn : n = l.length) (hc : n ≤ cap) (hq : dk_q key (rd_T53 l (j : Int)) = true) (hg : g < w.heap.size) (hw : Below w.heap.size w w1) :
    DkInv w0 g cap n l key (i + 1) (j + 1) ((cur.setIfInBounds (i * 2) (.string (rd_T53 l (j : Int)).f0)).setIfInBounds (i * 2 + 1) (.string (rd_T53 l (j : Int)).f1)) ((w1.setCell ⟨g, i * 2, none⟩ (.string (rd_T53 l (j : Int)).f0)).setCell ⟨g, i * 2 + 1, none⟩ (.string (rd_T53 l (j : Int)).f1)) := by
  have e := dk_filter_step l key j hj
  rw [if_pos hq] at e
  have hr : w1.heap[g]? = some (.cells cur 53 (0, 0)) := (hw.block g hg).trans h.row
  have hlt := h.lt
  have hsz := h.size
  refine ⟨by simp [World.setCell, Array.getElem?_modify, hr], by simp [hsz], ?_, by rw [e, List.length_append, ← h.len]; rfl, fun m h1 h2 => ?_, by omega, ?_⟩
  · rw [e, Kd.fcs_app, ← h.low]
    have e2 : Kd.fcs dk_cs [rd_T53 l (j : Int)] = [.string (rd_T53 l (j : Int)).f0, .string (rd_T53 l (j : Int)).f1] := rfl
    rw [e2]
    apply List.ext_getElem?
    intro m
    simp only [Array.toList_setIfInBounds, List.getElem?_take, List.getElem?_set, List.getElem?_append, List.length_take, Array.length_toList, List.length_set]
    have hl : min (i * 2) cur.size = i * 2 := by omega
    rw [hl]
    rcases Nat.lt_or_ge m (i * 2) with c | c
    · rw [if_pos (by omega), if_neg (by omega), if_neg (by omega), if_pos c, if_pos c]
    · rw [if_neg (show ¬ m < i * 2 by omega)]
      by_cases c0 : m = i * 2
      · subst c0
        rw [if_pos (by omega), if_neg (by omega), if_pos rfl, if_pos (by omega), Nat.sub_self]
        rfl
      · by_cases c1 : m = i * 2 + 1
        · subst c1
          rw [if_pos (by omega), if_pos rfl, if_pos (by omega), show i * 2 + 1 - i * 2 = 1 by omega]
          rfl
        · rw [if_neg (by omega)]
          symm
          apply List.getElem?_eq_none
          simp
          omega
  · rw [← h.high m (by omega) h2]
    simp only [Array.toList_setIfInBounds, List.getElem?_set]
    rw [if_neg (by omega), if_neg (by omega)]
  · refine (h.grown.then (World.grownBy.ofBelow hw)).then ⟨rfl, rfl, rfl, by simp [World.setCell], fun k hk hkg => ?_⟩
    have hkg' : k ≠ g := fun e => hkg (by rw [e])
    rw [Below.heap_setCell _ _ _ _ hkg', Below.heap_setCell _ _ _ _ hkg']
set_option maxHeartbeats 8000000 in
set_option maxRecDepth 100000 in
theorem dk_delete (g cap : Nat) (cur : Array Value) (l : List S53) (B : Nat) (key : ByteArray) (w : World) (hrow : w.heap[g]? = some (.cells cur 53 (0, 0))) (hsz : cur.size = cap * 2) (hcap : l.length ≤ cap) (hmax : cap ≤ 9223372036854775807)
    (hcs : cur.toList.take (l.length * 2) = Kd.fcs dk_cs l) (hkey : w.cell? ⟨B, 0, none⟩ = some (.string key)) (hgB : B ≠ g) :
    Calls Try.prog 46 #[.slice (some ⟨g, 0, none⟩) l.length cap, .func (.func 48) #[] #[.pointer (some ⟨B, 0, none⟩)]] w fun e w' =>
      e = .returned (.slice (some ⟨g, 0, none⟩) (l.filter (dk_q key)).length cap) ∧ ∃ cur', w'.heap[g]? = some (.cells cur' 53 (0, 0)) ∧ cur'.size = cap * 2 ∧ cur'.toList.take ((l.filter (dk_q key)).length * 2) = Kd.fcs dk_cs (l.filter (dk_q key)) ∧ w.grownBy w' (some g) := by
  have hg : g < w.heap.size := (Array.getElem?_eq_some_iff.1 hrow).1
  have hB : B < w.heap.size := World.block_lt_of_cell? w _ hkey
  have hC : Kd.C k53 w (some ⟨g, 0, none⟩) l.length l := by
    have hR := Kd.raw_R (d := k53) dk_flat (base := 0) (ok := fun _ => True) (g := g) trivial (Nat.zero_le _) hrow hcap (by simpa [maxLen] using hmax) hsz hcs
    exact (Kd.R_reads' hR).2.2
  have HIX := Aside0.mk (dk_index (some ⟨g, 0, none⟩) cap l B key w hC hcap hkey)
  have HK := Aside0.mk hkey
  have HRW := Aside0.mk hrow
  have HN := Aside0.mk (show g < w.heap.size ∧ B < w.heap.size ∧ B ≠ g ∧ cur.size = cap * 2 ∧ l.length ≤ cap ∧ cap ≤ 9223372036854775807 from ⟨hg, hB, hgB, hsz, hcap, hmax⟩)
  have HCS := Aside0.mk hcs
  clear hC hrow hcs hkey hgB hg hB hsz
  rcases dk_found key l 0 with ⟨h1, h2⟩ | ⟨k0, hk0, h1, h2, _, h3⟩
  · have H2 := Aside0.mk h2
    clear h2
    have h1' : dk_idx l key.toList 0 = -1 := h1
    rw [h1'] at HIX
    clear h1 h1'
    go_enter Try.func46, Try.ntmps46
    go_wp2_with (with_reducible (go_at_call 74; refine HIX.out.mono ?_; rintro e w1 ⟨rfl, hb1⟩; have HB1 := Aside0.mk hb1; clear hb1))
    go_ret
    rw [H2.out]
    exact ⟨rfl, cur, (HB1.out.block g HN.out.1).trans HRW.out, HN.out.2.2.2.1, HCS.out, World.grownBy.ofBelow HB1.out⟩
  · have h1' : dk_idx l key.toList 0 = (k0 : Int) := by
      have h_ : dk_idx l key.toList ((0 : Nat) : Int) = ((0 + k0 : Nat) : Int) := h1
      rw [Nat.zero_add] at h_
      exact h_
    rw [h1'] at HIX
    have hp0 : rd_T53 l (k0 : Int) = l[k0] := by
      unfold rd_T53
      simp [List.getD_eq_getElem?_getD, hk0]
    have hst : (l.take (k0 + 1)).filter (dk_q key) = l.take k0 := by
      rw [dk_filter_step l key k0 hk0, if_neg (by rw [hp0, h3]; simp), h2]
    have hne : ((k0 : Int) == -1) = false := beq_eq_false_iff_ne.2 (by omega)
    have hne2 : ¬ ((k0 : Int) = -1) := by omega
    have HST := Aside0.mk hst
    clear h1 h1' h2 h3 hp0 hst
    go_enter Try.func46, Try.ntmps46
    go_wp2_with (with_reducible (go_at_call 74; refine HIX.out.mono ?_; rintro e w1 ⟨rfl, hb1⟩; have HB1 := Aside0.mk hb1; clear hb1))
    go_loopw [5, 6] (fun v5 v6 wr => ∃ (i j : Nat) (cu : Array Value), v5 = .int .i64 (i : Int) ∧ v6 = .int .i64 (j : Int) ∧ j ≤ l.length ∧ Aside0 (DkInv w g cap l.length l key i j cu wr)) (fun v5 v6 _ => l.length - (intOf v6).toNat)
    case atStart =>
      refine ⟨k0, k0 + 1, cur, rfl, by go_num, by omega, ⟨⟨(HB1.out.block g HN.out.1).trans HRW.out, HN.out.2.2.2.1, ?_, ?_, fun m h1 h2 => ?_, by omega, World.grownBy.ofBelow HB1.out⟩⟩⟩
      · rw [HST.out, ← Kd.fcs_take dk_two, ← HCS.out, List.take_take, Nat.min_eq_left (by omega)]
      · rw [HST.out, List.length_take]; omega
      · rw [← HCS.out, List.getElem?_take, if_pos h2]
    case round =>
      obtain ⟨i, j, cu, rfl, rfl, hj, HI⟩ := hrel
      have hl63 : l.length ≤ 9223372036854775807 := by have := HN.out; omega
      by_cases hlt : j < l.length
      · obtain ⟨p, hp⟩ : ∃ p, rd_T53 l (j : Int) = p := ⟨_, rfl⟩
        have hc2 : j * 2 + 1 < cu.toList.length := by have := HI.out.size; have := HN.out; rw [Array.length_toList]; omega
        have hk := dk_cells l j hlt
        have c0 : wr.cell? ⟨g, j * 2, none⟩ = some (.string p.f0) := by
          rw [cell_of_row wr g _ cu _ _ HI.out.row, ← Array.getElem?_toList, HI.out.high _ (by omega) (by omega), hk.1, hp]
        have c1 : wr.cell? ⟨g, j * 2 + 1, none⟩ = some (.string p.f1) := by
          rw [cell_of_row wr g _ cu _ _ HI.out.row, ← Array.getElem?_toList, HI.out.high _ (by omega) (by omega), hk.2, hp]
        have ck : wr.cell? ⟨B, 0, none⟩ = some (.string key) := HI.out.grown.cell HK.out (fun e => HN.out.2.2.1 (by injection e))
        have HP := Aside0.mk hp
        clear hk hp hc2
        have hck : (wr.alloc (.cells #[.string p.f0, .string p.f1] 53)).cell? ⟨B, 0, none⟩ = some (.string key) := Lib.cell?_alloc_some _ ck
        have hgr : g < wr.heap.size := (Array.getElem?_eq_some_iff.1 HI.out.row).1
        have hbe : ∀ w2, Below (wr.alloc (.cells #[.string p.f0, .string p.f1] 53)).heap.size (wr.alloc (.cells #[.string p.f0, .string p.f1] 53)) w2 → Below wr.heap.size wr w2 ∧ w2.cell? ⟨wr.heap.size, 0, none⟩ = some (.string p.f0) ∧ w2.cell? ⟨wr.heap.size, 1, none⟩ = some (.string p.f1) := fun w2 hb => by
          refine ⟨(below_alloc (Below.refl _ _) _).trans (hb.mono (by rw [World.size_alloc]; omega)), ?_, ?_⟩
          · rw [hb.cell (by rw [World.size_alloc]; show wr.heap.size < _; omega), World.cell?_alloc_at _ _ _ _ rfl]; rfl
          · rw [hb.cell (by rw [World.size_alloc]; show wr.heap.size < _; omega), World.cell?_alloc_at _ _ _ _ rfl]; rfl
        have HBE := Aside0.mk hbe
        clear hbe
        cases hq : (p.f0.toList == key.toList) with
        | true =>
          have hq2 : dk_q key (rd_T53 l (j : Int)) = false := by rw [HP.out]; unfold dk_q; rw [hq]; rfl
          have HQ := Aside0.mk hq2
          clear hq2
          go_wp2_with (with_reducible (go_at_call 48; refine (dk_lit p B key _ hck).mono ?_; rw [hq]; rintro e w2 ⟨rfl, hb2⟩; obtain ⟨hb3, x0, x1⟩ := HBE.out w2 hb2; have HB3 := Aside0.mk hb3; clear hb2 hb3))
          have hw : (j : Int) + 1 = ((j + 1 : Nat) : Int) := by omega
          refine ⟨⟨i, j + 1, cu, rfl, congrArg _ hw, by omega, ⟨HI.out.skip hlt HQ.out hgr HB3.out⟩⟩, ?_⟩
          rw [hw]
          show l.length - (((j + 1 : Nat) : Int)).toNat < l.length - ((j : Int)).toNat
          omega
        | false =>
          have hq2 : dk_q key (rd_T53 l (j : Int)) = true := by rw [HP.out]; unfold dk_q; rw [hq]; rfl
          have HQ := Aside0.mk hq2
          clear hq2
          have hil : i < j := HI.out.lt
          have his : i * 2 + 1 < cu.size := by have := HI.out.size; have := HN.out; omega
          have hst : ∀ w2, Below wr.heap.size wr w2 → w2.cell? ⟨g, i * 2, none⟩ = some (cu[i * 2]'(by omega)) ∧ w2.cell? ⟨g, i * 2 + 1, none⟩ = some (cu[i * 2 + 1]'his) ∧ w2.frozen? ⟨g, i * 2, none⟩ = false ∧ w2.frozen? ⟨g, i * 2 + 1, none⟩ = false := fun w2 hb => by
            have hr2 : w2.heap[g]? = some (.cells cu 53 (0, 0)) := (hb.block g hgr).trans HI.out.row
            refine ⟨?_, ?_, blk_frozen hr2 _, blk_frozen hr2 _⟩
            · rw [cell_of_row w2 g _ cu _ _ hr2, Array.getElem?_eq_getElem]
            · rw [cell_of_row w2 g _ cu _ _ hr2, Array.getElem?_eq_getElem]
          have HST2 := Aside0.mk hst
          clear hst
          generalize cu[i * 2]'(by omega) = o0 at HST2
          generalize cu[i * 2 + 1]'his = o1 at HST2
          go_wp2_with (with_reducible (go_at_call 48; refine (dk_lit p B key _ hck).mono ?_; rw [hq]; rintro e w2 ⟨rfl, hb2⟩; obtain ⟨hb3, x0, x1⟩ := HBE.out w2 hb2; obtain ⟨y0, y1, z0, z1⟩ := HST2.out w2 hb3; have HB3 := Aside0.mk hb3; clear hb2 hb3))
          have hw : (j : Int) + 1 = ((j + 1 : Nat) : Int) := by omega
          have hw2 : (i : Int) + 1 = ((i + 1 : Nat) : Int) := by omega
          have hk := HI.out.keep hlt rfl hcap HQ.out hgr HB3.out
          rw [HP.out] at hk
          refine ⟨⟨i + 1, j + 1, _, congrArg _ hw2, congrArg _ hw, by omega, ⟨hk⟩⟩, ?_⟩
          rw [hw]
          show l.length - (((j + 1 : Nat) : Int)).toNat < l.length - ((j : Int)).toNat
          omega
      · obtain rfl : j = l.length := by omega
        have hil : i < l.length := HI.out.lt
        have hci : ¬ (cap = i) := by omega
        obtain ⟨Z, hZ⟩ : ∃ Z, (Builtin.zeroCells (Value.agg #[.string ⟨#[]⟩, .string ⟨#[]⟩]).cells (l.length - i)).toList = Z := ⟨_, rfl⟩
        have hZl : Z.length = (l.length - i) * 2 := by rw [← hZ, Array.length_toList, size_zeroCells]; rfl
        have hZ1 : ∀ v ∈ Z, v.oneCell' = true := by
          intro v hv
          rw [← hZ] at hv
          simp only [Builtin.zeroCells, Array.toList_map, List.mem_map] at hv
          obtain ⟨q, _, rfl⟩ := hv
          have h2 : q % 2 = 0 ∨ q % 2 = 1 := by omega
          show ((#[Value.string ⟨#[]⟩, Value.string ⟨#[]⟩] : Array Value)[q % 2]!).oneCell' = true
          rcases h2 with h2 | h2 <;> rw [h2] <;> rfl
        have hcl : ∀ ty, (Builtin.clear_ #[24] ty #[.slice (some ⟨g, i * 2, none⟩) (l.length - i) (cap - i)]).run Try.prog wr = .ok (.tuple #[]) (wr.setRow g (cu.toList.take (i * 2) ++ Z ++ cu.toList.drop (i * 2 + Z.length)).toArray) :=
          fun ty => Kd.run_clear_k wr 24 53 ty _ g (i * 2) _ _ cu _ Z Try.underlying24 dk_zero HI.out.row hZ (fun h => by omega) (by rw [hZl]; have := HI.out.size; omega) hZ1
        have HZ := Aside0.mk hZl
        clear hZ hZl hZ1
        obtain ⟨w5, hw5⟩ : ∃ w5, wr.setRow g (cu.toList.take (i * 2) ++ Z ++ cu.toList.drop (i * 2 + Z.length)).toArray = w5 := ⟨_, rfl⟩
        rw [hw5] at hcl
        have HW5 := Aside0.mk hw5
        clear hw5
        go_wp2
        go_ret
        have hfi : (l.filter (dk_q key)).length = i := by have := HI.out.len; rw [List.take_length] at this; exact this.symm
        have hlo := HI.out.low
        rw [List.take_length] at hlo
        rw [hfi]
        refine ⟨rfl, (cu.toList.take (i * 2) ++ Z ++ cu.toList.drop (i * 2 + Z.length)).toArray, ?_, ?_, ?_, ?_⟩
        · rw [← HW5.out]; exact setRow_heap wr g cu _ _ _ HI.out.row
        · have := HI.out.size
          have := HZ.out
          simp only [List.size_toArray, List.length_append, List.length_take, List.length_drop, Array.length_toList]
          omega
        · rw [← hlo, List.append_assoc]
          exact List.take_left' (by rw [List.length_take, Array.length_toList]; have := HI.out.size; omega)
        · rw [← HW5.out]; exact HI.out.grown.then (World.grownBy.ofRow wr g _)
set_option maxHeartbeats 8000000 in
set_option maxRecDepth 100000 in
theorem dk_delete_nil (B : Nat) (key : ByteArray) (w : World) (hkey : w.cell? ⟨B, 0, none⟩ = some (.string key)) :
    Calls Try.prog 46 #[.slice none 0 0, .func (.func 48) #[] #[.pointer (some ⟨B, 0, none⟩)]] w fun e w' => e = .returned (.slice none 0 0) ∧ Below w.heap.size w w' := by
  have hix : Calls Try.prog 74 #[.slice none 0 0, .func (.func 48) #[] #[.pointer (some ⟨B, 0, none⟩)]] w fun e w' => e = .returned (.int .i64 (-1)) ∧ Below w.heap.size w w' := dk_index none 0 [] B key w (Kd.C_nil k53 w) (Nat.le_refl _) hkey
  have HIX := Aside0.mk hix
  clear hkey hix
  go_enter Try.func46, Try.ntmps46
  go_wp2_with (with_reducible (go_at_call 74; refine HIX.out.mono ?_; rintro e w1 ⟨rfl, hb1⟩; have HB1 := Aside0.mk hb1; clear hb1))
  go_ret
  exact ⟨rfl, HB1.out⟩
theorem dk_ne {w : World} {o : Obj} {g : Nat} (h : (w.alloc o).heap.size ≤ g) : w.heap.size ≠ g := by rw [World.size_alloc] at h; omega
theorem dk_max {c : Nat} (h : c ≤ maxLen) : c ≤ 9223372036854775807 := by simpa [maxLen] using h
theorem dk_key {w w1 : World} {a : Addr} {v : Value} (hb : Below w.heap.size w w1) (h : w.cell? a = some v) : w1.cell? a = some v := (hb.cell (World.block_lt_of_cell? w _ h)).trans h
set_option maxHeartbeats 8000000 in
set_option maxRecDepth 100000 in
theorem impl_DelKey.calls (A0 : Option Addr) (c0 : Nat) (l0 : List S53) (a1 : ByteArray) (r : List S53) (w : World) (hr0 : Kd.C k53 w A0 l0.length l0) (hc0 : l0.length ≤ c0) (h : impl_DelKey.f l0 a1 = some r) :
    Calls Try.prog 13 #[.slice A0 l0.length c0, .string a1] w fun e w' => ∃ v0_ : Value, e = .returned (v0_) ∧ Kd.R k53 53 w' w.heap.size (fun _ => True) v0_ r ∧ Below w.heap.size w w' := by
  unfold impl_DelKey.f at h
  by_cases c3 : l0.length < 4398046511104
  rotate_left
  · rw [if_neg c3] at h; exact absurd h (by simp)
  rw [if_pos c3] at h
  obtain rfl := Option.some.inj h
  clear h
  have HR0 := Aside0.mk hr0
  have HC0 := Aside0.mk hc0
  have HL := Aside0.mk c3
  clear hr0 hc0 c3
  have hw0 : (w.alloc (.cells #[.string a1] 9)).cell? ⟨w.heap.size, 0, none⟩ = some (.string a1) := (World.cell?_alloc_at _ _ _ _ rfl).trans rfl
  have HW := Aside0.mk hw0
  clear hw0
  have HB := Aside0.mk ((Below.refl w.heap.size w).alloc (Nat.le_refl _) (.cells #[.string a1] 9))
  have hcl := impl_Pair_47.calls A0 c0 l0 l0 (w.alloc (.cells #[.string a1] 9)) (Kd.C_alloc HR0.out _) HC0.out (by unfold impl_Pair_47.f; rw [if_pos HL.out])
  have HCL := Aside0.mk hcl
  clear hcl
  go_enter Try.func13, Try.ntmps13
  go_wp2_with (with_reducible (go_at_call 47; refine HCL.out.mono ?_; rintro e w1 ⟨v1, rfl, ho1, hb1⟩; have HO1 := Aside0.mk ho1; have HB1 := Aside0.mk hb1; clear ho1 hb1))
  have hk1 := dk_key HB1.out HW.out
  have hraw := Kd.R_raw (d := k53) dk_flat HO1.out
  rcases hraw with ⟨hv, hnil⟩ | ⟨g, cap, cur, hv, _, hgb, hh, hnc, hcm, hcs, ht⟩
  · subst hv
    refine (dk_delete_nil w.heap.size a1 w1 hk1).mono ?_
    rintro e w2 ⟨rfl, hb2⟩
    have HB2 := Aside0.mk hb2
    have HNIL := Aside0.mk hnil
    clear hb2 hnil hk1
    go_wp2
    go_ret
    have hn : l0 = [] := HNIL.out
    subst hn
    exact ⟨_, rfl, Kd.R_nil _ _ _ _ _, below_then (below_then HB.out HB.out.size HB1.out) (Nat.le_trans HB.out.size HB1.out.size) HB2.out⟩
  · subst hv
    refine (dk_delete g cap cur l0 w.heap.size a1 w1 hh hcs hnc (dk_max hcm) ht hk1 (dk_ne hgb)).mono ?_
    rintro e w2 ⟨rfl, cur2, d1, d2, d3, d4⟩
    have HG := Aside0.mk hgb
    have HD := Aside0.mk (And.intro d1 (And.intro d2 (And.intro d3 d4)))
    have HCM := Aside0.mk (And.intro hnc hcm)
    clear d1 d2 d3 d4 hgb hh hnc hcm hcs ht hk1
    go_wp2
    go_ret
    obtain ⟨d1, d2, d3, d4⟩ := HD.out
    have hle : (l0.filter (dk_q a1)).length ≤ l0.length := List.length_filter_le _ _
    have hbase : w.heap.size ≤ g := by have := HG.out; rw [World.size_alloc] at this; omega
    refine ⟨_, rfl, Kd.raw_R dk_flat trivial hbase d1 (Nat.le_trans hle HCM.out.1) HCM.out.2 d2 d3, ?_⟩
    have hb1 := below_then HB.out HB.out.size HB1.out
    exact ⟨d4.os.trans hb1.os, d4.tape.trans hb1.tape, d4.output.trans hb1.output, Nat.le_trans hb1.size d4.size, fun k hk => (d4.block k (Nat.lt_of_lt_of_le hk hb1.size) (fun e => by injection e with e; omega)).trans (hb1.block k hk)⟩


end Go.Proofs.Ytamkjoflkkffhaa.P
