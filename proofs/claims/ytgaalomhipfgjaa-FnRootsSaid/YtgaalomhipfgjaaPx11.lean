-- Written by wip/xp/xp.py over the kit's print; Lean checks it.
import Derived.Test.YtgaalomhipfgjaaPx0
import Derived.Test.YtgaalomhipfgjaaPx2
import Derived.Test.YtgaalomhipfgjaaPx3
import Derived.Test.YtgaalomhipfgjaaPx4
import Derived.Test.YtgaalomhipfgjaaPx7
import Derived.Test.YtgaalomhipfgjaaPx9
import Derived.Test.YtgaalomhipfgjaaPx10
namespace Go.Proofs.Ytgaalomhipfgjaa.P
open Go.RowKit Go.Proofs.YtgaalomhipfgjaaW.PrintWords Go.Proofs.YtgaalomhipfgjaaW.PrintLast Go.Proofs.YtgaalomhipfgjaaW.PrintMore
attribute [local go_sem] max2_int min2_int max_two min_two max_three min_three max_four min_four   -- for this text's walks alone
set_option linter.unusedVariables false
set_option linter.unusedSimpArgs false

/-! ###  impl_PartAt: function 11 -/
mutual
def impl_PartAt.j0 : Nat → List (S26) → Int → Int → List ByteArray → Bool → ByteArray → ByteArray → Option (ByteArray × ByteArray × Bool)
  | 0, _, _, _, _, _, _, _ => none
  | k + 1, x0, x2, x3, x4, x30, x263000, x263001 => if x30 = true then (some ((⟨#[]⟩ : ByteArray), (⟨#[]⟩ : ByteArray), false)) else ((impl_wayTo.f k x263000 x263001 x2 x3 x4).bind fun bt265 => (if bt265.2 = true then (if (x0.length : Int) = x3 then (if 0 ≤ x2 then (if x2 < (x0.length : Int) then ((impl_pathOf.f k x0 x2).bind fun t270 => ((impl_wayTo.f k ((rd_T26 x0 x2).f0) ((rd_T26 x0 x2).f1) x2 x3 t270).bind fun bt273 => (impl_PartAt.l0 k x0 bt265.1 bt273.1 (bt265.1.length : Int) 0))) else (none)) else (none)) else (if 0 ≤ (wrap64 ((bt265.1.length : Int) - 1)) then (if (wrap64 ((bt265.1.length : Int) - 1)) < (bt265.1.length : Int) then ((impl_innerOf.f k x0).bind fun t287 => ((impl_rootBytes.f k (x0.length : Int) t287).bind fun t288 => ((impl_isFull.f k (strOfNums (rd_L3 bt265.1 (wrap64 ((bt265.1.length : Int) - 1)))) (strOfNums t288)).bind fun t291 => (some (strOfNums (rd_L3 bt265.1 (wrap64 ((bt265.1.length : Int) - 1))), strOfNums t288, t291))))) else (none)) else (none))) else (some ((⟨#[]⟩ : ByteArray), (⟨#[]⟩ : ByteArray), false))))
def impl_PartAt.l0 : Nat → List (S26) → List (List Int) → List (List Int) → Int → Int → Option (ByteArray × ByteArray × Bool)
  | 0, _, _, _, _, _ => none
  | k + 1, x0, x13, x15, x59, x60 => if x60 < x59 then (if 0 ≤ x60 then (if x60 < (x13.length : Int) then (if x60 < (x15.length : Int) then ((impl_isFull.f k (strOfNums (rd_L3 x13 x60)) (strOfNums (rd_L3 x15 x60))).bind fun t279 => (if t279 = true then (some (strOfNums (rd_L3 x13 x60), strOfNums (rd_L3 x15 x60), true)) else (impl_PartAt.l0 k x0 x13 x15 x59 (wrap64 (x60 + 1))))) else (none)) else (none)) else (none)) else (if 0 ≤ (wrap64 ((x13.length : Int) - 1)) then (if (wrap64 ((x13.length : Int) - 1)) < (x13.length : Int) then ((impl_innerOf.f k x0).bind fun t281 => ((impl_rootBytes.f k (x0.length : Int) t281).bind fun t282 => ((impl_isFull.f k (strOfNums (rd_L3 x13 (wrap64 ((x13.length : Int) - 1)))) (strOfNums t282)).bind fun t285 => (some (strOfNums (rd_L3 x13 (wrap64 ((x13.length : Int) - 1))), strOfNums t282, t285))))) else (none)) else (none))
end
def impl_PartAt.f (k : Nat) (l0 : List (S26)) (a1_0 : ByteArray) (a1_1 : ByteArray) (a2 : Int) (a3 : Int) (l4 : List ByteArray) : Option (ByteArray × ByteArray × Bool) := (impl_isPlace.f a2 a3).bind fun t263 => (if t263 = true then ((impl_PairsOk.f k l0).bind fun t264 => (impl_PartAt.j0 k l0 a2 a3 l4 (!t264) a1_0 a1_1)) else (impl_PartAt.j0 k l0 a2 a3 l4 true a1_0 a1_1))
def impl_PartAt.T7 : Bool × List (List Nat × List Nat) := (true, [([], []), ([], []), ([0, 1], [0, 1]), ([2], [2]), ([], []), ([], []), ([], []), ([], []), ([6, 7], [6, 7]), ([3, 4, 5, 8, 8], [3, 4, 5, 8]), ([9], [9]), ([10], [10]), ([10], [10]), ([11, 9, 0, 1, 2, 3, 4, 5, 6, 7, 8, 9, 10, 11], [11]), ([12, 13, 0, 1, 2, 3, 4, 5, 6, 7, 8, 9, 10, 11, 12, 13], [12])])
def impl_PartAt.B7 : List Nat := [0, 0, 3, 7, 0, 0, 0, 0, 192, 511, 1023, 2047, 2047, 4095, 16383]
theorem impl_PartAt.tab7 : rtab .any (opsOf Try.f11 7) = impl_PartAt.T7 := by kernel_rfl
theorem impl_PartAt.bits7 : waitsOk impl_PartAt.T7.2 impl_PartAt.B7 = true := by kernel_rfl
def impl_PartAt.T11 : Bool × List (List Nat × List Nat) := (true, [([], []), ([], []), ([0, 1], [0, 1]), ([2], [2]), ([3], [3]), ([], []), ([], []), ([5, 6], [5, 6]), ([7], [7]), ([8], [8]), ([4, 0, 1, 2, 3, 4], [4]), ([9, 10, 0, 1, 2, 3, 4, 5, 6, 7, 8, 9, 10], [9])])
def impl_PartAt.B11 : List Nat := [0, 0, 3, 7, 15, 0, 0, 96, 224, 480, 31, 2047]
theorem impl_PartAt.tab11 : rtab .any (opsOf Try.f11 11) = impl_PartAt.T11 := by kernel_rfl
theorem impl_PartAt.bits11 : waitsOk impl_PartAt.T11.2 impl_PartAt.B11 = true := by kernel_rfl
def impl_PartAt.T15 : Bool × List (List Nat × List Nat) := (true, [([], []), ([], []), ([1], [1]), ([2], [2]), ([0, 3], [0, 3]), ([4], [4]), ([5], [5]), ([], []), ([7], [7]), ([], []), ([9], [9]), ([8, 10, 10], [8, 10]), ([11], [11]), ([6, 11, 0, 1, 2, 3, 4, 5, 6], [6]), ([12, 13, 0, 1, 2, 3, 4, 5, 6, 7, 8, 9, 10, 11, 12, 13], [12])])
def impl_PartAt.B15 : List Nat := [0, 0, 2, 6, 15, 31, 63, 0, 128, 0, 512, 1920, 3968, 4095, 16383]
theorem impl_PartAt.tab15 : rtab .any (opsOf Try.f11 15) = impl_PartAt.T15 := by kernel_rfl
theorem impl_PartAt.bits15 : waitsOk impl_PartAt.T15.2 impl_PartAt.B15 = true := by kernel_rfl
set_option maxHeartbeats 8000000 in
set_option maxRecDepth 100000 in
theorem impl_PartAt.calls (k : Nat) (A0 : Option Addr) (c0 : Nat) (l0 : List (S26)) (a1_0 : ByteArray) (a1_1 : ByteArray) (a2 : Int) (a3 : Int) (A4 : Option Addr) (c4 : Nat) (l4 : List ByteArray) (r1 : ByteArray) (r2 : ByteArray) (r3 : Bool) (w : World) (hr0 : Kd.C k26 w A0 l0.length l0) (hc0 : l0.length ≤ c0) (hr4 : Kd.C Kd.string w A4 l4.length l4) (hc4 : l4.length ≤ c4) (h : impl_PartAt.f k l0 a1_0 a1_1 a2 a3 l4 = some (r1, r2, r3)) :
  Calls Try.prog 11 #[.slice A0 l0.length c0, .agg #[.string a1_0, .string a1_1], .int .i64 a2, .int .i64 a3, .slice A4 l4.length c4] w fun e w' => e = .returned (.tuple #[.string r1, .string r2, .bool r3]) ∧ Below w.heap.size w w' := by
  have hu26 := Try.underlying26
  have HR0 := Aside0.mk hr0
  have HC0 := Aside0.mk hc0
  clear hr0 hc0
  have HR4 := Aside0.mk hr4
  have HC4 := Aside0.mk hc4
  clear hr4 hc4
  have HB := Aside0.mk (Below.refl w.heap.size w)
  have H : ((impl_isPlace.f a2 a3).bind fun t263 => (if t263 = true then ((impl_PairsOk.f k l0).bind fun t264 => (impl_PartAt.j0 k l0 a2 a3 l4 (!t264) a1_0 a1_1)) else (impl_PartAt.j0 k l0 a2 a3 l4 true a1_0 a1_1))) = some (r1, r2, r3) := h
  clear h
  have HC6 := Aside0.mk H
  clear H
  go_enter Try.func11, Try.ntmps11
  go_upto_region 1 with (first | ((with_reducible refine gate_dst (N := 6) rfl ?_); refine box_event ?hg (N := 6) ?hd (cs := #[.string a1_0, .string a1_1]) (t := 26) ?hr ?_; (case hd => rfl); (case hg => rfl); (case hr => first | (go_simp; done) | (go_simp; rfl)); intro gb262 hg w7 hbox hb; have n0_ := Aside0.mk (below_step (be_ HB.out) hb); have n1_ := Aside0.mk (hbox); have n2_ := Aside0.mk ((by rw [hg]; exact (below_size (be_ HB.out)) : w.heap.size ≤ gb262)); have n3_ := Aside0.mk ((by rw [hg]; exact (below_size (be_ HB.out)) : w.heap.size ≤ gb262)); clear HB; have HB := n0_; have BK262 := n1_; have GW262 := n2_; have GE262 := n3_; clear n0_ n1_ n2_ n3_; clear hb hbox hg))
  (try simp only [Act.put, sa_, sz_, ss_])
  go_cut [30] (fun v30 wc => ∃ (kq : Nat) (x30_5 : Bool), v30 = .bool x30_5 ∧ Aside0 (impl_PartAt.j0 kq l0 a2 a3 l4 x30_5 a1_0 a1_1 = some (r1, r2, r3)) ∧ Aside0 (kq ≤ k) ∧ Aside0 (wc.heap[gb262]? = some (.cells #[.string a1_0, .string a1_1] 26 (0, 0))) ∧ Aside0 (Below w.heap.size w wc))
  case first =>
   have H := HC6.out
   clear HC6
   replace H := Option.bind_eq_some_iff.mp H
   obtain ⟨t263, A80, H⟩ := H
   have A8 := Aside0.mk A80
   clear A80
   by_cases c9 : t263 = true
   · subst c9
     have H1 : ((impl_PairsOk.f k l0).bind fun t264 => (impl_PartAt.j0 k l0 a2 a3 l4 (!t264) a1_0 a1_1)) = some (r1, r2, r3) := by rw [if_pos rfl] at H; exact H
     clear H
     have H := H1
     clear H1
     replace H := Option.bind_eq_some_iff.mp H
     obtain ⟨t264, A100, H⟩ := H
     have A10 := Aside0.mk A100
     clear A100
     have H' := Aside0.mk H
     clear H
     go_wp2_with (first | ((with_reducible refine gate_callee (f := 54) rfl ?_); refine goesL_ (some 24) rfl rfl Try.func54 (by kernel_rfl) rfl #[.int .i64 a2, .int .i64 a3] rfl al_ ?_; (with_reducible refine (impl_isPlace.calls a2 a3 true _ A8.out).mono ?_); rintro e w' ⟨rfl, ⟨nd, rfl⟩⟩; refine ⟨_, rfl, ?_⟩) | (go_at_call 55; (with_reducible refine (impl_PairsOk.calls k _ _ l0 t264 _ ?side1 ?side2 A10.out).mono ?_); (case side1 => repeat (first | exact (Kd.C_below HR0.out (bs_ HB.out GE262.out)) | (with_reducible refine Kd.C_alloc ?_ _) | (with_reducible refine Kd.C_drewN ?_ _) | (with_reducible refine Kd.C_drew ?_))); (case side2 => exact HC0.out); rintro e w11 ⟨rfl, hb⟩; have n0_ := Aside0.mk (blk_below (g := gb262) (o := .cells #[.string a1_0, .string a1_1] 26 (0, 0)) (bk_ BK262.out) hb); have n1_ := Aside0.mk (below_step (bs_ HB.out GE262.out) hb); clear BK262; clear HB; have BK262 := n0_; have HB := n1_; clear n0_ n1_; (try clear hb); (try clear hb2); (try clear hk); (try clear hi)))
     go_meet
     case rel => exact ⟨_, (!t264), (by first | rfl | (simp; done) | (simp [*]; done)), H', ⟨by first | omega | exact Nat.le_refl _⟩, ⟨by (with_reducible repeat (first | refine blk_drewN ?_ _ | refine blk_drew ?_ | refine blk_alloc ?_ _)); exact BK262.out⟩, ⟨bs_ HB.out GE262.out⟩⟩
   · replace c9 := Bool.eq_false_iff.mpr c9
     subst c9
     have H1 : (impl_PartAt.j0 k l0 a2 a3 l4 true a1_0 a1_1) = some (r1, r2, r3) := by rw [if_neg (show ¬ (false = true) by decide)] at H; exact H
     clear H
     have H := H1
     clear H1
     have H' := Aside0.mk H
     clear H
     go_wp2_with (first | ((with_reducible refine gate_callee (f := 54) rfl ?_); refine goesL_ (some 24) rfl rfl Try.func54 (by kernel_rfl) rfl #[.int .i64 a2, .int .i64 a3] rfl al_ ?_; (with_reducible refine (impl_isPlace.calls a2 a3 false _ A8.out).mono ?_); rintro e w' ⟨rfl, ⟨nd, rfl⟩⟩; refine ⟨_, rfl, ?_⟩))
     go_meet
     case rel => exact ⟨_, (true), (by first | rfl | (simp; done) | (simp [*]; done)), H', ⟨by first | omega | exact Nat.le_refl _⟩, ⟨by (with_reducible repeat (first | refine blk_drewN ?_ _ | refine blk_drew ?_ | refine blk_alloc ?_ _)); exact BK262.out⟩, ⟨bs_ HB.out GE262.out⟩⟩
  case rest =>
   clear HC6
   try clear c1
   try clear p2
   try clear c4
   try clear c5
   try clear c9
   try clear c11
   obtain ⟨kq, x30_5, rfl, HA, HJ5, BK262, HB⟩ := hcut
   cases kq with
   | zero => exact absurd HA.out (by simp [impl_PartAt.j0])
   | succ kj5 =>
    have H := HA.out
    clear HA
    simp only [impl_PartAt.j0] at H
    by_cases c12 : x30_5 = true
    · subst c12
      have H1 : (some ((⟨#[]⟩ : ByteArray), (⟨#[]⟩ : ByteArray), false)) = some (r1, r2, r3) := by rw [if_pos rfl] at H; exact H
      clear H
      have H := H1
      clear H1
      simp only [Option.some.injEq, Prod.mk.injEq] at H
      obtain ⟨rfl, rfl, rfl⟩ := H
      go_wp2
      go_ret3
      exact ⟨by first | rfl | (simp [errW_none, errW_some] <;> rfl) | (simp [*, errW_none, errW_some] <;> rfl), bs_ HB.out GE262.out⟩
    · replace c12 := Bool.eq_false_iff.mpr c12
      subst c12
      have H1 : ((impl_wayTo.f kj5 a1_0 a1_1 a2 a3 l4).bind fun bt265 => (if bt265.2 = true then (if (l0.length : Int) = a3 then (if 0 ≤ a2 then (if a2 < (l0.length : Int) then ((impl_pathOf.f kj5 l0 a2).bind fun t270 => ((impl_wayTo.f kj5 ((rd_T26 l0 a2).f0) ((rd_T26 l0 a2).f1) a2 a3 t270).bind fun bt273 => (impl_PartAt.l0 kj5 l0 bt265.1 bt273.1 (bt265.1.length : Int) 0))) else (none)) else (none)) else (if 0 ≤ (wrap64 ((bt265.1.length : Int) - 1)) then (if (wrap64 ((bt265.1.length : Int) - 1)) < (bt265.1.length : Int) then ((impl_innerOf.f kj5 l0).bind fun t287 => ((impl_rootBytes.f kj5 (l0.length : Int) t287).bind fun t288 => ((impl_isFull.f kj5 (strOfNums (rd_L3 bt265.1 (wrap64 ((bt265.1.length : Int) - 1)))) (strOfNums t288)).bind fun t291 => (some (strOfNums (rd_L3 bt265.1 (wrap64 ((bt265.1.length : Int) - 1))), strOfNums t288, t291))))) else (none)) else (none))) else (some ((⟨#[]⟩ : ByteArray), (⟨#[]⟩ : ByteArray), false)))) = some (r1, r2, r3) := by rw [if_neg (show ¬ (false = true) by decide)] at H; exact H
      clear H
      have H := H1
      clear H1
      replace H := Option.bind_eq_some_iff.mp H
      obtain ⟨⟨t265, t268⟩, A130, H⟩ := H; try dsimp only at H
      have A13 := Aside0.mk A130
      clear A130
      by_cases c14 : t268 = true
      · subst c14
        have H1 : (if (l0.length : Int) = a3 then (if 0 ≤ a2 then (if a2 < (l0.length : Int) then ((impl_pathOf.f kj5 l0 a2).bind fun t270 => ((impl_wayTo.f kj5 ((rd_T26 l0 a2).f0) ((rd_T26 l0 a2).f1) a2 a3 t270).bind fun bt273 => (impl_PartAt.l0 kj5 l0 t265 bt273.1 (t265.length : Int) 0))) else (none)) else (none)) else (if 0 ≤ (wrap64 ((t265.length : Int) - 1)) then (if (wrap64 ((t265.length : Int) - 1)) < (t265.length : Int) then ((impl_innerOf.f kj5 l0).bind fun t287 => ((impl_rootBytes.f kj5 (l0.length : Int) t287).bind fun t288 => ((impl_isFull.f kj5 (strOfNums (rd_L3 t265 (wrap64 ((t265.length : Int) - 1)))) (strOfNums t288)).bind fun t291 => (some (strOfNums (rd_L3 t265 (wrap64 ((t265.length : Int) - 1))), strOfNums t288, t291))))) else (none)) else (none))) = some (r1, r2, r3) := by rw [if_pos rfl] at H; exact H
        clear H
        have H := H1
        clear H1
        by_cases c15 : (l0.length : Int) = a3
        · rw [if_pos c15] at H
          have c15b0 : ((l0.length : Int) == a3) = true := beq_iff_eq.mpr c15
          have c15b1 : ((l0.length : Int) != a3) = false := bne_eq_false_iff_eq.mpr c15
          clear c15
          by_cases c16 : 0 ≤ a2
          rotate_left
          · rw [if_neg c16] at H; exact absurd H (by simp)
          rw [if_pos c16] at H
          have c16b0 : decide (0 ≤ a2) = true := decide_eq_true c16
          clear c16
          by_cases c17 : a2 < (l0.length : Int)
          rotate_left
          · rw [if_neg c17] at H; exact absurd H (by simp)
          rw [if_pos c17] at H
          have c17b0 : decide (a2 < (l0.length : Int)) = true := decide_eq_true c17
          clear c17
          replace H := Option.bind_eq_some_iff.mp H
          obtain ⟨t270, A180, H⟩ := H
          have A18 := Aside0.mk A180
          clear A180
          replace H := Option.bind_eq_some_iff.mp H
          obtain ⟨⟨t273, t276⟩, A190, H⟩ := H; try dsimp only at H
          have A19 := Aside0.mk A190
          clear A190
          have H' := Aside0.mk H
          clear H
          have hcz20_0 : wc.cell? ⟨gb262, 0, none⟩ = some (.string a1_0) := (blk_cell BK262.out 0).trans rfl
          have hcz20_1 : wc.cell? ⟨gb262, 1, none⟩ = some (.string a1_1) := (blk_cell BK262.out 1).trans rfl
          have hfz20_0 := blk_frozen BK262.out 0
          have hfz20_1 := blk_frozen BK262.out 1
          try go_wp2_with (first | ((with_reducible refine gate_callee (f := 56) rfl ?_); refine goesL_ (some 36) rfl rfl Try.func56 (by kernel_rfl) rfl #[.agg #[.string a1_0, .string a1_1], .int .i64 a2, .int .i64 a3, .slice A4 l4.length c4] rfl al_ ?_; (with_reducible refine (impl_wayTo.calls kj5 a1_0 a1_1 a2 a3 _ _ l4 t265 true _ ?side1 ?side2 A13.out).mono ?_); (case side1 => exact kc_ (Kd.C_below HR4.out HB.out)); (case side2 => exact HC4.out); rintro e w21 ⟨v266, rfl, ho0, hb⟩; refine ⟨_, rfl, ?_⟩; have n0_ := Aside0.mk (Kd.N_lower (Kd.N_mono (ok' := fun k_ => k_ ≠ gb262) ho0 (fun k_ hk_ => (Kd.freshB (g := gb262) (o := .cells #[.string a1_0, .string a1_1] 26 (0, 0)) (bk_ BK262.out) k_ hk_))) (below_size (bs_ HB.out GE262.out))); have n1_ := Aside0.mk (blk_below (g := gb262) (o := .cells #[.string a1_0, .string a1_1] 26 (0, 0)) (bk_ BK262.out) hb); have n2_ := Aside0.mk (below_step (bs_ HB.out GE262.out) hb); clear BK262; clear HB; have HO267 := n0_; have BK262 := n1_; have HB := n2_; clear n0_ n1_ n2_; (try clear hb); (try clear hb2); (try clear hk); (try clear hi); (try clear ho0)))
          have n0_ := Aside0.mk (Kd.N_drew HO267.out)
          have n1_ := Aside0.mk (blk_drew BK262.out)
          have n2_ := Aside0.mk (below_drew1 HB.out)
          clear HO267
          clear BK262
          clear HB
          have HO267 := n0_
          have BK262 := n1_
          have HB := n2_
          clear n0_ n1_ n2_
          have p269 : 0 ≤ (a2 : Int) := of_decide_eq_true (by first | (with_reducible assumption) | assumption)
          have q269 : a2 < (l0.length : Int) := of_decide_eq_true (by first | (with_reducible assumption) | assumption)
          obtain ⟨ad269, e269, hx269_0, hx269_1⟩ := at_T26 HR0.out a2 p269 q269
          have hw269_1 := hx269_1
          have hw269_0 := hx269_0
          cases e269
          replace hx269_0 := (HB.out.cell (World.block_lt_of_cell? w _ hx269_0)).trans hx269_0
          replace hx269_1 := (HB.out.cell (World.block_lt_of_cell? w _ hx269_1)).trans hx269_1
          replace p269 := eq_true p269
          replace q269 := eq_true q269
          refine start_ (n := 15) (S := fun w' => w'.cell? (ad269.add ((a2).toNat * 2)) = some (.string ((rd_T26 l0 a2).f0)) ∧ w'.cell? ⟨(ad269.add ((a2).toNat * 2)).block, (ad269.add ((a2).toNat * 2)).off + 1, none⟩ = some (.string ((rd_T26 l0 a2).f1))) (ds := []) (bq_ 0 15) (by kernel_rfl) rfl rfl ⟨((HB.out.cell (World.block_lt_of_cell? w _ hw269_0)).trans hw269_0), ((HB.out.cell (World.block_lt_of_cell? w _ hw269_1)).trans hw269_1)⟩ (fun hHeld => ?_); refine with_tabW impl_PartAt.tab7 impl_PartAt.bits7 (fun HT_ HW_ => ?_)
          generalize w21.drew = w22 at HO267 BK262 HB hx269_0 hx269_1 hHeld ⊢
          refine pu_ 0 (some 46) (bq_ 1 14) HT_ ?_
          refine pu_ 1 (some 47) (bq_ 2 13) HT_ ?_
          refine pu_ 2 (some 48) (bq_ 3 12) HT_ ?_
          refine pu_ 4 (some 50) #[true, true, true, false, true, false, false, false, false, false, false, false, false, false, false] HT_ ?_
          refine pu_ 5 (some 51) #[true, true, true, false, true, true, false, false, false, false, false, false, false, false, false] HT_ ?_
          refine pu_ 6 (some 52) #[true, true, true, false, true, true, true, false, false, false, false, false, false, false, false] HT_ ?_
          refine pu_ 7 (some 53) #[true, true, true, false, true, true, true, true, false, false, false, false, false, false, false] HT_ ?_
          refine take_ (i := 3) (N := some 49) (v := ?_) (a' := ?_) (bq_ 8 7) rfl rfl (take_ofW HT_.out HW_.out (by kernel_rfl)) (fun _ _ _ h => h) (Or.inl ⟨by rfl, ?_⟩) hHeld ?_ ?_
          rotate_left
          · rintro w' ⟨s0, s1⟩
            go_simp
            with_reducible rfl
          rotate_left
          · simp only [Act.put, sa_, sz_, ss_, i64_w, i32_w]; rfl
          refine on_ 8 (some 54) (bq_ 9 6) HT_ (fun K hK => ?_)
          refine goes_ Try.func57 (by kernel_rfl) rfl #[.slice (some ad269) l0.length c0, .int .i64 a2] (by rfl) rfl rfl al_ ?_
          with_reducible refine (impl_pathOf.calls kj5 _ _ l0 a2 t270 _ ?side1 ?side2 A18.out).mono ?_
          (case side1 => exact kc_ (Kd.C_below HR0.out HB.out))
          (case side2 => exact HC0.out)
          rintro e w23 ⟨v271, rfl, ho0, hb⟩
          refine ⟨_, rfl, ?_⟩
          have n0_ := Aside0.mk (Kd.N_elder' (by (with_reducible repeat (first | apply Kd.N_alloc | apply Kd.N_drewN | apply Kd.N_drew)); exact HO267.out) (Kd.R_base ho0) hb)
          have n1_ := Aside0.mk (Kd.R_lower ho0 (below_size (bs_ HB.out GE262.out)))
          have n2_ := Aside0.mk (blk_below (g := gb262) (o := .cells #[.string a1_0, .string a1_1] 26 (0, 0)) (bk_ BK262.out) hb)
          have n3_ := Aside0.mk (below_step (bs_ HB.out GE262.out) hb)
          clear HO267
          clear BK262
          clear HB
          have HO267 := n0_
          have HO272 := n1_
          have BK262 := n2_
          have HB := n3_
          clear n0_ n1_ n2_ n3_
          (try clear hb)
          (try clear hb2)
          (try clear hk)
          (try clear hi)
          (try clear ho0)
          obtain ⟨Ao24, co24, eo24⟩ := Kd.R_slice HO272.out
          (first | subst eo24 | (injection eo24 with f1_ f2_ f3_; have f4_ := f1_.symm; have f5_ := f3_.symm; clear f1_ f2_ f3_; subst f4_; subst f5_))
          refine hK.out _ _ ⟨((HB.out.cell (World.block_lt_of_cell? w _ hw269_0)).trans hw269_0), ((HB.out.cell (World.block_lt_of_cell? w _ hw269_1)).trans hw269_1)⟩ (fun hHeld => ?_)
          clear hK K
          refine nm_ ?_
          refine on_ 9 (some 55) (bq_ 10 5) HT_ (fun K hK => ?_)
          refine goes_ Try.func56 (by kernel_rfl) rfl #[.agg #[.string ((rd_T26 l0 a2).f0), .string ((rd_T26 l0 a2).f1)], .int .i64 a2, .int .i64 a3, .slice Ao24 t270.length co24] (by rfl) rfl rfl al_ ?_
          with_reducible refine (impl_wayTo.calls kj5 ((rd_T26 l0 a2).f0) ((rd_T26 l0 a2).f1) a2 a3 _ _ t270 t273 t276 _ ?side1 ?side2 A19.out).mono ?_
          (case side1 => exact kc_ (Kd.R_reads' HO272.out).2.2)
          (case side2 => exact (Kd.R_reads' HO272.out).2.1)
          rintro e w25 ⟨v274, rfl, ho0, hb⟩
          refine ⟨_, rfl, ?_⟩
          have n0_ := Aside0.mk (Kd.N_elder' (by (with_reducible repeat (first | apply Kd.N_alloc | apply Kd.N_drewN | apply Kd.N_drew)); exact HO267.out) (Kd.N_base ho0) hb)
          have n1_ := Aside0.mk (Kd.R_below (kr_ HO272.out) hb)
          have n2_ := Aside0.mk (Kd.N_lower (Kd.N_mono (ok' := fun k_ => some k_ ≠ (v266 : Value).ownBlock ∧ some k_ ≠ (.slice Ao24 t270.length co24 : Value).ownBlock ∧ k_ ≠ gb262) ho0 (fun k_ hk_ => ⟨(Kd.fresh' (Kd.N_lt (by (with_reducible repeat (first | apply Kd.N_alloc | apply Kd.N_drewN | apply Kd.N_drew)); exact HO267.out)) k_ hk_), (Kd.fresh' (Kd.R_lt (kr_ HO272.out)) k_ hk_), (Kd.freshB (g := gb262) (o := .cells #[.string a1_0, .string a1_1] 26 (0, 0)) (bk_ BK262.out) k_ hk_)⟩)) (below_size (bs_ HB.out GE262.out)))
          have n3_ := Aside0.mk (blk_below (g := gb262) (o := .cells #[.string a1_0, .string a1_1] 26 (0, 0)) (bk_ BK262.out) hb)
          have n4_ := Aside0.mk (below_step (bs_ HB.out GE262.out) hb)
          clear HO267
          clear HO272
          clear BK262
          clear HB
          have HO267 := n0_
          have HO272 := n1_
          have HO275 := n2_
          have BK262 := n3_
          have HB := n4_
          clear n0_ n1_ n2_ n3_ n4_
          (try clear hb)
          (try clear hb2)
          (try clear hk)
          (try clear hi)
          (try clear ho0)
          refine hK.out _ _ ⟨((HB.out.cell (World.block_lt_of_cell? w _ hw269_0)).trans hw269_0), ((HB.out.cell (World.block_lt_of_cell? w _ hw269_1)).trans hw269_1)⟩ (fun hHeld => ?_)
          clear hK K
          refine nm_ ?_
          refine pu_ 10 (some 45) (bq_ 11 4) HT_ ?_
          refine pu_ 11 (some 56) (bq_ 12 3) HT_ ?_
          refine pu_ 12 (some 57) (bq_ 13 2) HT_ ?_
          refine pu_ 13 (some 15) (bq_ 14 1) HT_ ?_
          refine pu_ 14 (some 16) (bq_ 15 0) HT_ ?_
          refine done_ (done_of HT_.out (by kernel_rfl)) ?_
          obtain ⟨Ao26, co26, eo26⟩ := Kd.N_slice HO267.out
          subst eo26
          try go_wp2
          go_loopg [60] kj5 (fun kq v60 w' => ∃ (x60_2 : Int), v60 = .int .i64 x60_2 ∧ Aside0 (impl_PartAt.l0 kq l0 t265 t273 (t265.length : Int) x60_2 = some (r1, r2, r3)) ∧ Aside0 (kq ≤ kj5) ∧ Aside0 (Kd.N (Kd.slice 5 (Kd.int .u8)) 22 w' w.heap.size (fun k_ => some k_ ≠ (v274 : Value).ownBlock ∧ k_ ≠ gb262) (.slice Ao26 t265.length co26) t265) ∧ Aside0 (Kd.N (Kd.slice 5 (Kd.int .u8)) 22 w' w.heap.size (fun k_ => some k_ ≠ ((.slice Ao26 t265.length co26) : Value).ownBlock ∧ k_ ≠ gb262) v274 t273) ∧ Aside0 (w'.heap[gb262]? = some (.cells #[.string a1_0, .string a1_1] 26 (0, 0))) ∧ Aside0 (Below w.heap.size w w'))
          case atStart => exact ⟨(0), (by first | rfl | (simp; done) | (simp [*]; done)), H', ⟨Nat.le_refl _⟩, ⟨by (with_reducible repeat (first | apply Kd.N_alloc | apply Kd.N_drewN | apply Kd.N_drew)); exact Kd.N_mono HO267.out (fun _ hk => ⟨hk.2, hk.1.1⟩)⟩, ⟨by (with_reducible repeat (first | apply Kd.N_alloc | apply Kd.N_drewN | apply Kd.N_drew)); exact Kd.N_mono HO275.out (fun _ hk => ⟨hk.1, hk.2.2⟩)⟩, ⟨by (with_reducible repeat (first | refine blk_drewN ?_ _ | refine blk_drew ?_ | refine blk_alloc ?_ _)); exact BK262.out⟩, ⟨bs_ HB.out GE262.out⟩⟩
          case round =>
           clear H'
           try clear c1
           try clear p2
           try clear q2
           try clear hx2
           try clear c4
           try clear c5
           try clear p6
           try clear c9
           try clear c11
           try clear c12
           try clear c14
           try clear c15
           try clear c15b0
           try clear c15b1
           try clear c16
           try clear c16b0
           try clear c17
           try clear c17b0
           try clear p26
           try clear q26
           try clear hx26
           try clear hcz20_0
           try clear hcz20_1
           try clear hfz20_0
           try clear hfz20_1
           try clear hx269_0
           try clear hx269_1
           try clear p2
           try clear p269
           try clear q269
           obtain ⟨x60_2, rfl, HA, HK2, HO_13, HO_15, BK262, HB⟩ := hrel
           cases gk with
           | zero => exact absurd HA.out (by simp [impl_PartAt.l0])
           | succ k2 =>
            have H := HA.out
            clear HA
            simp only [impl_PartAt.l0] at H
            by_cases c27 : x60_2 < (t265.length : Int)
            · rw [if_pos c27] at H
              have c27b0 : decide (x60_2 < (t265.length : Int)) = true := decide_eq_true c27
              clear c27
              by_cases c28 : 0 ≤ x60_2
              rotate_left
              · rw [if_neg c28] at H; exact absurd H (by simp)
              rw [if_pos c28] at H
              have c28b0 : decide (0 ≤ x60_2) = true := decide_eq_true c28
              clear c28
              by_cases c29 : x60_2 < (t265.length : Int)
              rotate_left
              · rw [if_neg c29] at H; exact absurd H (by simp)
              rw [if_pos c29] at H
              have c29b0 : decide (x60_2 < (t265.length : Int)) = true := decide_eq_true c29
              clear c29
              by_cases c30 : x60_2 < (t273.length : Int)
              rotate_left
              · rw [if_neg c30] at H; exact absurd H (by simp)
              rw [if_pos c30] at H
              have c30b0 : decide (x60_2 < (t273.length : Int)) = true := decide_eq_true c30
              clear c30
              replace H := Option.bind_eq_some_iff.mp H
              obtain ⟨t279, A310, H⟩ := H
              have A31 := Aside0.mk A310
              clear A310
              by_cases c32 : t279 = true
              · subst c32
                have H1 : (some (strOfNums (rd_L3 t265 x60_2), strOfNums (rd_L3 t273 x60_2), true)) = some (r1, r2, r3) := by rw [if_pos rfl] at H; exact H
                clear H
                have H := H1
                clear H1
                simp only [Option.some.injEq, Prod.mk.injEq] at H
                obtain ⟨rfl, rfl, rfl⟩ := H
                try go_wp2
                have n0_ := Aside0.mk (Kd.N_drew HO_13.out)
                have n1_ := Aside0.mk (Kd.N_drew HO_15.out)
                have n2_ := Aside0.mk (blk_drew BK262.out)
                have n3_ := Aside0.mk (below_drew1 HB.out)
                clear HO_13
                clear HO_15
                clear BK262
                clear HB
                have HO_13 := n0_
                have HO_15 := n1_
                have BK262 := n2_
                have HB := n3_
                clear n0_ n1_ n2_ n3_
                have p277 : 0 ≤ (x60_2 : Int) := of_decide_eq_true (by first | (with_reducible assumption) | assumption)
                have q277 : x60_2 < (t265.length : Int) := of_decide_eq_true (by first | (with_reducible assumption) | assumption)
                obtain ⟨ad277, A277_0, c277_0, e277, hx277_0, hl277_0, hi277_0⟩ := at_L3 (Kd.N_reads' HO_13.out).2.2 x60_2 p277 q277
                cases e277
                obtain ⟨ce277, hce277, hMe277, hcc277⟩ := Kd.N_get HO_13.out [] x60_2 p277 (by first | exact q277 | exact of_decide_eq_true (by first | (with_reducible assumption) | assumption) | (have e_ := (Kd.N_reads' HO_13.out).1; omega))
                obtain ⟨ua277_0, uc277_0, rfl, ul277_0, ge277_0⟩ := Kd.FK_slice_open hMe277
                have hv277_0 := hcc277 0 _ rfl
                rw [Nat.add_zero, show ((Kd.slice 5 (Kd.int .u8))).sz = 1 from rfl, Nat.mul_one] at hv277_0
                replace hv277_0 := Option.some.inj (hv277_0.symm.trans hx277_0)
                injection hv277_0 with hva_ hvn_ hvc_
                rw [hva_] at ge277_0
                rw [hvc_] at ul277_0
                have HL277_0 := Aside0.mk (show Kd.V (Kd.int .u8) 5 _ w.heap.size _ _ (rd_L3 t265 x60_2) from Kd.V_mk ul277_0 ge277_0)
                clear hva_ hvn_ hvc_ ge277_0 ul277_0
                clear hcc277 hce277
                have HR277_0 := Aside0.mk hi277_0
                have HC277_0 := Aside0.mk hl277_0
                clear hi277_0 hl277_0
                replace p277 := eq_true p277
                replace q277 := eq_true q277
                obtain ⟨Ao34, co34, eo34⟩ := Kd.N_slice HO_15.out
                (first | subst eo34 | (injection eo34 with f1_ f2_ f3_; have f4_ := f1_.symm; have f5_ := f3_.symm; clear f1_ f2_ f3_; subst f4_; subst f5_))
                have p278 : 0 ≤ (x60_2 : Int) := of_decide_eq_true (by first | (with_reducible assumption) | assumption)
                have q278 : x60_2 < (t273.length : Int) := of_decide_eq_true (by first | (with_reducible assumption) | assumption)
                obtain ⟨ad278, A278_0, c278_0, e278, hx278_0, hl278_0, hi278_0⟩ := at_L3 (Kd.N_reads' HO_15.out).2.2 x60_2 p278 q278
                cases e278
                obtain ⟨ce278, hce278, hMe278, hcc278⟩ := Kd.N_get HO_15.out [] x60_2 p278 (by first | exact q278 | exact of_decide_eq_true (by first | (with_reducible assumption) | assumption) | (have e_ := (Kd.N_reads' HO_15.out).1; omega))
                obtain ⟨ua278_0, uc278_0, rfl, ul278_0, ge278_0⟩ := Kd.FK_slice_open hMe278
                have hv278_0 := hcc278 0 _ rfl
                rw [Nat.add_zero, show ((Kd.slice 5 (Kd.int .u8))).sz = 1 from rfl, Nat.mul_one] at hv278_0
                replace hv278_0 := Option.some.inj (hv278_0.symm.trans hx278_0)
                injection hv278_0 with hva_ hvn_ hvc_
                rw [hva_] at ge278_0
                rw [hvc_] at ul278_0
                have HL278_0 := Aside0.mk (show Kd.V (Kd.int .u8) 5 _ w.heap.size _ _ (rd_L3 t273 x60_2) from Kd.V_mk ul278_0 ge278_0)
                clear hva_ hvn_ hvc_ ge278_0 ul278_0
                clear hcc278 hce278
                have HR278_0 := Aside0.mk hi278_0
                have HC278_0 := Aside0.mk hl278_0
                clear hi278_0 hl278_0
                replace p278 := eq_true p278
                replace q278 := eq_true q278
                have hcv35 := Kd.C_string (P := Try.prog) (A := A277_0) (c := c277_0) Try.underlying22 Try.underlying5 Try.underlying9 (by repeat (first | (with_reducible exact HR277_0.out) | (with_reducible refine Kd.C_alloc ?_ _) | (with_reducible refine Kd.C_drewN ?_ _) | (with_reducible refine Kd.C_drew ?_) | exact HR277_0.out))
                have hcv36 := Kd.C_string (P := Try.prog) (A := A278_0) (c := c278_0) Try.underlying22 Try.underlying5 Try.underlying9 (by repeat (first | (with_reducible exact HR278_0.out) | (with_reducible refine Kd.C_alloc ?_ _) | (with_reducible refine Kd.C_drewN ?_ _) | (with_reducible refine Kd.C_drew ?_) | exact HR278_0.out))
                refine start_ (n := 12) (S := fun w' => (w'.cell? (ad277.add (x60_2).toNat) = some (.slice A277_0 (rd_L3 t265 x60_2).length c277_0) ∧ w'.cell? (ad278.add (x60_2).toNat) = some (.slice A278_0 (rd_L3 t273 x60_2).length c278_0)) ∧ Kd.C (Kd.int .u8) w' A277_0 (rd_L3 t265 x60_2).length (rd_L3 t265 x60_2) ∧ Kd.C (Kd.int .u8) w' A278_0 (rd_L3 t273 x60_2).length (rd_L3 t273 x60_2)) (ds := []) (bq_ 0 12) (by kernel_rfl) rfl rfl ⟨⟨hx277_0, hx278_0⟩, Kd.C_drew HR277_0.out, Kd.C_drew HR278_0.out⟩ (fun hHeld => ?_); refine with_tabW impl_PartAt.tab11 impl_PartAt.bits11 (fun HT_ HW_ => ?_)
                generalize wr.drew = w33 at HO_13 HO_15 BK262 HB HL277_0 HL278_0 HR277_0 HR278_0 hx277_0 hx278_0 hHeld ⊢
                refine pu_ 0 (some 63) (bq_ 1 11) HT_ ?_
                refine pu_ 1 (some 64) (bq_ 2 10) HT_ ?_
                refine pu_ 2 (some 65) (bq_ 3 9) HT_ ?_
                refine pu_ 5 (some 68) #[true, true, true, false, false, true, false, false, false, false, false, false] HT_ ?_
                refine pu_ 6 (some 69) #[true, true, true, false, false, true, true, false, false, false, false, false] HT_ ?_
                refine pu_ 7 (some 70) #[true, true, true, false, false, true, true, true, false, false, false, false] HT_ ?_
                refine take_ (i := 3) (N := some 66) (v := ?_) (a' := ?_) #[true, true, true, true, false, true, true, true, false, false, false, false] rfl rfl (take_ofW HT_.out HW_.out (by kernel_rfl)) (fun _ _ _ h => h) (Or.inl ⟨by rfl, ?_⟩) hHeld ?_ ?_
                rotate_left
                · rintro w' ⟨⟨s0, s1⟩, sc⟩
                  go_simp
                  with_reducible rfl
                rotate_left
                · simp only [Act.put, sa_, sz_, ss_, i64_w, i32_w]; rfl
                refine take_ (i := 4) (N := some 67) (v := ?_) (a' := ?_) (bq_ 8 4) rfl rfl (take_ofW HT_.out HW_.out (by kernel_rfl)) (fun _ _ _ h => h) (Or.inl ⟨by rfl, ?_⟩) hHeld ?_ ?_
                rotate_left
                · rintro w' ⟨_, sc⟩
                  have hcv_ := Kd.C_string (P := Try.prog) (A := A277_0) (c := c277_0) Try.underlying22 Try.underlying5 Try.underlying9 sc.1
                  go_simp
                  with_reducible rfl
                rotate_left
                · simp only [Act.put, sa_, sz_, ss_, i64_w, i32_w]; rfl
                refine pu_ 10 (some 18) #[true, true, true, true, true, true, true, true, false, false, true, false] HT_ ?_
                refine take_ (i := 8) (N := some 71) (v := ?_) (a' := ?_) #[true, true, true, true, true, true, true, true, true, false, true, false] rfl rfl (take_ofW HT_.out HW_.out (by kernel_rfl)) (fun _ _ _ h => h) (Or.inl ⟨by rfl, ?_⟩) hHeld ?_ ?_
                rotate_left
                · rintro w' ⟨⟨s0, s1⟩, sc⟩
                  go_simp
                  with_reducible rfl
                rotate_left
                · simp only [Act.put, sa_, sz_, ss_, i64_w, i32_w]; rfl
                refine take_ (i := 9) (N := some 72) (v := ?_) (a' := ?_) (bq_ 11 1) rfl rfl (take_ofW HT_.out HW_.out (by kernel_rfl)) (fun _ _ _ h => h) (Or.inl ⟨by rfl, ?_⟩) hHeld ?_ ?_
                rotate_left
                · rintro w' ⟨_, sc⟩
                  have hcv_ := Kd.C_string (P := Try.prog) (A := A278_0) (c := c278_0) Try.underlying22 Try.underlying5 Try.underlying9 sc.2
                  go_simp
                  with_reducible rfl
                rotate_left
                · simp only [Act.put, sa_, sz_, ss_, i64_w, i32_w]; rfl
                refine pu_ 11 (some 19) (bq_ 12 0) HT_ ?_
                refine done_ (done_of HT_.out (by kernel_rfl)) ?_
                try go_wp2_with (first | ((with_reducible refine gate_callee (f := 58) rfl ?_); refine goesL_ (some 75) rfl rfl Try.func58 (by kernel_rfl) rfl #[.string (strOfNums (rd_L3 t265 x60_2)), .string (strOfNums (rd_L3 t273 x60_2))] rfl al_ ?_; (with_reducible refine (impl_isFull.calls k2 (strOfNums (rd_L3 t265 x60_2)) (strOfNums (rd_L3 t273 x60_2)) true _ A31.out).mono ?_); rintro e w38 ⟨rfl, hb⟩; refine ⟨_, rfl, ?_⟩; have n0_ := Aside0.mk (Kd.N_below (by (with_reducible repeat (first | apply Kd.N_alloc | apply Kd.N_drewN | apply Kd.N_drew)); exact HO_13.out) hb); have n1_ := Aside0.mk (Kd.N_below (by (with_reducible repeat (first | apply Kd.N_alloc | apply Kd.N_drewN | apply Kd.N_drew)); exact HO_15.out) hb); have n2_ := Aside0.mk (Kd.V_below (by (with_reducible repeat (first | apply Kd.V_alloc | apply Kd.V_drewN | apply Kd.V_drew)); exact HL277_0.out) hb); have n3_ := Aside0.mk (Kd.V_below (by (with_reducible repeat (first | apply Kd.V_alloc | apply Kd.V_drewN | apply Kd.V_drew)); exact HL278_0.out) hb); have n4_ := Aside0.mk (blk_below (g := gb262) (o := .cells #[.string a1_0, .string a1_1] 26 (0, 0)) (bk_ BK262.out) hb); have n5_ := Aside0.mk (below_step (bs_ HB.out GE262.out) hb); clear HO_13; clear HO_15; clear HL277_0; clear HL278_0; clear BK262; clear HB; have HO_13 := n0_; have HO_15 := n1_; have HL277_0 := n2_; have HL278_0 := n3_; have BK262 := n4_; have HB := n5_; clear n0_ n1_ n2_ n3_ n4_ n5_; (try clear hb); (try clear hb2); (try clear hk); (try clear hi)))
                go_ret3
                exact ⟨by first | rfl | (simp [errW_none, errW_some] <;> rfl) | (simp [*, errW_none, errW_some] <;> rfl), bs_ HB.out GE262.out⟩
              · replace c32 := Bool.eq_false_iff.mpr c32
                subst c32
                have H1 : (impl_PartAt.l0 k2 l0 t265 t273 (t265.length : Int) (wrap64 (x60_2 + 1))) = some (r1, r2, r3) := by rw [if_neg (show ¬ (false = true) by decide)] at H; exact H
                clear H
                have H := H1
                clear H1
                have H' := Aside0.mk H
                clear H
                try go_wp2
                have n0_ := Aside0.mk (Kd.N_drew HO_13.out)
                have n1_ := Aside0.mk (Kd.N_drew HO_15.out)
                have n2_ := Aside0.mk (blk_drew BK262.out)
                have n3_ := Aside0.mk (below_drew1 HB.out)
                clear HO_13
                clear HO_15
                clear BK262
                clear HB
                have HO_13 := n0_
                have HO_15 := n1_
                have BK262 := n2_
                have HB := n3_
                clear n0_ n1_ n2_ n3_
                have p277 : 0 ≤ (x60_2 : Int) := of_decide_eq_true (by first | (with_reducible assumption) | assumption)
                have q277 : x60_2 < (t265.length : Int) := of_decide_eq_true (by first | (with_reducible assumption) | assumption)
                obtain ⟨ad277, A277_0, c277_0, e277, hx277_0, hl277_0, hi277_0⟩ := at_L3 (Kd.N_reads' HO_13.out).2.2 x60_2 p277 q277
                cases e277
                obtain ⟨ce277, hce277, hMe277, hcc277⟩ := Kd.N_get HO_13.out [] x60_2 p277 (by first | exact q277 | exact of_decide_eq_true (by first | (with_reducible assumption) | assumption) | (have e_ := (Kd.N_reads' HO_13.out).1; omega))
                obtain ⟨ua277_0, uc277_0, rfl, ul277_0, ge277_0⟩ := Kd.FK_slice_open hMe277
                have hv277_0 := hcc277 0 _ rfl
                rw [Nat.add_zero, show ((Kd.slice 5 (Kd.int .u8))).sz = 1 from rfl, Nat.mul_one] at hv277_0
                replace hv277_0 := Option.some.inj (hv277_0.symm.trans hx277_0)
                injection hv277_0 with hva_ hvn_ hvc_
                rw [hva_] at ge277_0
                rw [hvc_] at ul277_0
                have HL277_0 := Aside0.mk (show Kd.V (Kd.int .u8) 5 _ w.heap.size _ _ (rd_L3 t265 x60_2) from Kd.V_mk ul277_0 ge277_0)
                clear hva_ hvn_ hvc_ ge277_0 ul277_0
                clear hcc277 hce277
                have HR277_0 := Aside0.mk hi277_0
                have HC277_0 := Aside0.mk hl277_0
                clear hi277_0 hl277_0
                replace p277 := eq_true p277
                replace q277 := eq_true q277
                obtain ⟨Ao40, co40, eo40⟩ := Kd.N_slice HO_15.out
                (first | subst eo40 | (injection eo40 with f1_ f2_ f3_; have f4_ := f1_.symm; have f5_ := f3_.symm; clear f1_ f2_ f3_; subst f4_; subst f5_))
                have p278 : 0 ≤ (x60_2 : Int) := of_decide_eq_true (by first | (with_reducible assumption) | assumption)
                have q278 : x60_2 < (t273.length : Int) := of_decide_eq_true (by first | (with_reducible assumption) | assumption)
                obtain ⟨ad278, A278_0, c278_0, e278, hx278_0, hl278_0, hi278_0⟩ := at_L3 (Kd.N_reads' HO_15.out).2.2 x60_2 p278 q278
                cases e278
                obtain ⟨ce278, hce278, hMe278, hcc278⟩ := Kd.N_get HO_15.out [] x60_2 p278 (by first | exact q278 | exact of_decide_eq_true (by first | (with_reducible assumption) | assumption) | (have e_ := (Kd.N_reads' HO_15.out).1; omega))
                obtain ⟨ua278_0, uc278_0, rfl, ul278_0, ge278_0⟩ := Kd.FK_slice_open hMe278
                have hv278_0 := hcc278 0 _ rfl
                rw [Nat.add_zero, show ((Kd.slice 5 (Kd.int .u8))).sz = 1 from rfl, Nat.mul_one] at hv278_0
                replace hv278_0 := Option.some.inj (hv278_0.symm.trans hx278_0)
                injection hv278_0 with hva_ hvn_ hvc_
                rw [hva_] at ge278_0
                rw [hvc_] at ul278_0
                have HL278_0 := Aside0.mk (show Kd.V (Kd.int .u8) 5 _ w.heap.size _ _ (rd_L3 t273 x60_2) from Kd.V_mk ul278_0 ge278_0)
                clear hva_ hvn_ hvc_ ge278_0 ul278_0
                clear hcc278 hce278
                have HR278_0 := Aside0.mk hi278_0
                have HC278_0 := Aside0.mk hl278_0
                clear hi278_0 hl278_0
                replace p278 := eq_true p278
                replace q278 := eq_true q278
                have hcv41 := Kd.C_string (P := Try.prog) (A := A277_0) (c := c277_0) Try.underlying22 Try.underlying5 Try.underlying9 (by repeat (first | (with_reducible exact HR277_0.out) | (with_reducible refine Kd.C_alloc ?_ _) | (with_reducible refine Kd.C_drewN ?_ _) | (with_reducible refine Kd.C_drew ?_) | exact HR277_0.out))
                have hcv42 := Kd.C_string (P := Try.prog) (A := A278_0) (c := c278_0) Try.underlying22 Try.underlying5 Try.underlying9 (by repeat (first | (with_reducible exact HR278_0.out) | (with_reducible refine Kd.C_alloc ?_ _) | (with_reducible refine Kd.C_drewN ?_ _) | (with_reducible refine Kd.C_drew ?_) | exact HR278_0.out))
                refine start_ (n := 12) (S := fun w' => (w'.cell? (ad277.add (x60_2).toNat) = some (.slice A277_0 (rd_L3 t265 x60_2).length c277_0) ∧ w'.cell? (ad278.add (x60_2).toNat) = some (.slice A278_0 (rd_L3 t273 x60_2).length c278_0)) ∧ Kd.C (Kd.int .u8) w' A277_0 (rd_L3 t265 x60_2).length (rd_L3 t265 x60_2) ∧ Kd.C (Kd.int .u8) w' A278_0 (rd_L3 t273 x60_2).length (rd_L3 t273 x60_2)) (ds := []) (bq_ 0 12) (by kernel_rfl) rfl rfl ⟨⟨hx277_0, hx278_0⟩, Kd.C_drew HR277_0.out, Kd.C_drew HR278_0.out⟩ (fun hHeld => ?_); refine with_tabW impl_PartAt.tab11 impl_PartAt.bits11 (fun HT_ HW_ => ?_)
                generalize wr.drew = w39 at HO_13 HO_15 BK262 HB HL277_0 HL278_0 HR277_0 HR278_0 hx277_0 hx278_0 hHeld ⊢
                refine pu_ 0 (some 63) (bq_ 1 11) HT_ ?_
                refine pu_ 1 (some 64) (bq_ 2 10) HT_ ?_
                refine pu_ 2 (some 65) (bq_ 3 9) HT_ ?_
                refine pu_ 5 (some 68) #[true, true, true, false, false, true, false, false, false, false, false, false] HT_ ?_
                refine pu_ 6 (some 69) #[true, true, true, false, false, true, true, false, false, false, false, false] HT_ ?_
                refine pu_ 7 (some 70) #[true, true, true, false, false, true, true, true, false, false, false, false] HT_ ?_
                refine take_ (i := 3) (N := some 66) (v := ?_) (a' := ?_) #[true, true, true, true, false, true, true, true, false, false, false, false] rfl rfl (take_ofW HT_.out HW_.out (by kernel_rfl)) (fun _ _ _ h => h) (Or.inl ⟨by rfl, ?_⟩) hHeld ?_ ?_
                rotate_left
                · rintro w' ⟨⟨s0, s1⟩, sc⟩
                  go_simp
                  with_reducible rfl
                rotate_left
                · simp only [Act.put, sa_, sz_, ss_, i64_w, i32_w]; rfl
                refine take_ (i := 4) (N := some 67) (v := ?_) (a' := ?_) (bq_ 8 4) rfl rfl (take_ofW HT_.out HW_.out (by kernel_rfl)) (fun _ _ _ h => h) (Or.inl ⟨by rfl, ?_⟩) hHeld ?_ ?_
                rotate_left
                · rintro w' ⟨_, sc⟩
                  have hcv_ := Kd.C_string (P := Try.prog) (A := A277_0) (c := c277_0) Try.underlying22 Try.underlying5 Try.underlying9 sc.1
                  go_simp
                  with_reducible rfl
                rotate_left
                · simp only [Act.put, sa_, sz_, ss_, i64_w, i32_w]; rfl
                refine pu_ 10 (some 18) #[true, true, true, true, true, true, true, true, false, false, true, false] HT_ ?_
                refine take_ (i := 8) (N := some 71) (v := ?_) (a' := ?_) #[true, true, true, true, true, true, true, true, true, false, true, false] rfl rfl (take_ofW HT_.out HW_.out (by kernel_rfl)) (fun _ _ _ h => h) (Or.inl ⟨by rfl, ?_⟩) hHeld ?_ ?_
                rotate_left
                · rintro w' ⟨⟨s0, s1⟩, sc⟩
                  go_simp
                  with_reducible rfl
                rotate_left
                · simp only [Act.put, sa_, sz_, ss_, i64_w, i32_w]; rfl
                refine take_ (i := 9) (N := some 72) (v := ?_) (a' := ?_) (bq_ 11 1) rfl rfl (take_ofW HT_.out HW_.out (by kernel_rfl)) (fun _ _ _ h => h) (Or.inl ⟨by rfl, ?_⟩) hHeld ?_ ?_
                rotate_left
                · rintro w' ⟨_, sc⟩
                  have hcv_ := Kd.C_string (P := Try.prog) (A := A278_0) (c := c278_0) Try.underlying22 Try.underlying5 Try.underlying9 sc.2
                  go_simp
                  with_reducible rfl
                rotate_left
                · simp only [Act.put, sa_, sz_, ss_, i64_w, i32_w]; rfl
                refine pu_ 11 (some 19) (bq_ 12 0) HT_ ?_
                refine done_ (done_of HT_.out (by kernel_rfl)) ?_
                try go_wp2_with (first | ((with_reducible refine gate_callee (f := 58) rfl ?_); refine goesL_ (some 75) rfl rfl Try.func58 (by kernel_rfl) rfl #[.string (strOfNums (rd_L3 t265 x60_2)), .string (strOfNums (rd_L3 t273 x60_2))] rfl al_ ?_; (with_reducible refine (impl_isFull.calls k2 (strOfNums (rd_L3 t265 x60_2)) (strOfNums (rd_L3 t273 x60_2)) false _ A31.out).mono ?_); rintro e w44 ⟨rfl, hb⟩; refine ⟨_, rfl, ?_⟩; have n0_ := Aside0.mk (Kd.N_below (by (with_reducible repeat (first | apply Kd.N_alloc | apply Kd.N_drewN | apply Kd.N_drew)); exact HO_13.out) hb); have n1_ := Aside0.mk (Kd.N_below (by (with_reducible repeat (first | apply Kd.N_alloc | apply Kd.N_drewN | apply Kd.N_drew)); exact HO_15.out) hb); have n2_ := Aside0.mk (Kd.V_below (by (with_reducible repeat (first | apply Kd.V_alloc | apply Kd.V_drewN | apply Kd.V_drew)); exact HL277_0.out) hb); have n3_ := Aside0.mk (Kd.V_below (by (with_reducible repeat (first | apply Kd.V_alloc | apply Kd.V_drewN | apply Kd.V_drew)); exact HL278_0.out) hb); have n4_ := Aside0.mk (blk_below (g := gb262) (o := .cells #[.string a1_0, .string a1_1] 26 (0, 0)) (bk_ BK262.out) hb); have n5_ := Aside0.mk (below_step (bs_ HB.out GE262.out) hb); clear HO_13; clear HO_15; clear HL277_0; clear HL278_0; clear BK262; clear HB; have HO_13 := n0_; have HO_15 := n1_; have HL277_0 := n2_; have HL278_0 := n3_; have BK262 := n4_; have HB := n5_; clear n0_ n1_ n2_ n3_ n4_ n5_; (try clear hb); (try clear hb2); (try clear hk); (try clear hi)))
                go_roundg k2
                case measure => have := HJ5.out; have := HK2.out; omega
                case rel => exact ⟨(wrap64 (x60_2 + 1)), (by first | rfl | (simp; done) | (simp [*]; done)), H', ⟨by have := HJ5.out; have := HK2.out; omega⟩, ⟨by (with_reducible repeat (first | apply Kd.N_alloc | apply Kd.N_drewN | apply Kd.N_drew)); exact HO_13.out⟩, ⟨by (with_reducible repeat (first | apply Kd.N_alloc | apply Kd.N_drewN | apply Kd.N_drew)); exact HO_15.out⟩, ⟨by (with_reducible repeat (first | refine blk_drewN ?_ _ | refine blk_drew ?_ | refine blk_alloc ?_ _)); exact BK262.out⟩, ⟨bs_ HB.out GE262.out⟩⟩
            · rw [if_neg c27] at H
              have c27b0 : decide (x60_2 < (t265.length : Int)) = false := decide_eq_false c27
              clear c27
              obtain ⟨ji45, hji45⟩ : ∃ j_ : Int, (wrap64 ((t265.length : Int) - 1)) = j_ := ⟨_, rfl⟩
              replace H : (if 0 ≤ (ji45) then (if (ji45) < (t265.length : Int) then ((impl_innerOf.f k2 l0).bind fun t281 => ((impl_rootBytes.f k2 (l0.length : Int) t281).bind fun t282 => ((impl_isFull.f k2 (strOfNums (rd_L3 t265 (ji45))) (strOfNums t282)).bind fun t285 => (some (strOfNums (rd_L3 t265 (ji45)), strOfNums t282, t285))))) else (none)) else (none)) = some (r1, r2, r3) := by first | (rw [hji45] at H; exact H) | (simp only [hji45] at H ⊢; exact H)
              have hji45w : (IntKind.i64.wrap ((t265.length : Int) - 1)) = ji45 := (i64_w _).trans hji45
              by_cases c46 : 0 ≤ (ji45)
              rotate_left
              · rw [if_neg c46] at H; exact absurd H (by simp)
              rw [if_pos c46] at H
              have c46b0 : decide (0 ≤ (ji45)) = true := decide_eq_true c46
              clear c46
              by_cases c47 : (ji45) < (t265.length : Int)
              rotate_left
              · rw [if_neg c47] at H; exact absurd H (by simp)
              rw [if_pos c47] at H
              have c47b0 : decide ((ji45) < (t265.length : Int)) = true := decide_eq_true c47
              clear c47
              replace H := Option.bind_eq_some_iff.mp H
              obtain ⟨t281, A480, H⟩ := H
              have A48 := Aside0.mk A480
              clear A480
              replace H := Option.bind_eq_some_iff.mp H
              obtain ⟨t282, A490, H⟩ := H
              have A49 := Aside0.mk A490
              clear A490
              replace H := Option.bind_eq_some_iff.mp H
              obtain ⟨t285, A500, H⟩ := H
              have A50 := Aside0.mk A500
              clear A500
              simp only [Option.some.injEq, Prod.mk.injEq] at H
              obtain ⟨rfl, rfl, rfl⟩ := H
              try go_wp2
              have n0_ := Aside0.mk (Kd.N_drew HO_13.out)
              have n1_ := Aside0.mk (Kd.N_drew HO_15.out)
              have n2_ := Aside0.mk (blk_drew BK262.out)
              have n3_ := Aside0.mk (below_drew1 HB.out)
              clear HO_13
              clear HO_15
              clear BK262
              clear HB
              have HO_13 := n0_
              have HO_15 := n1_
              have BK262 := n2_
              have HB := n3_
              clear n0_ n1_ n2_ n3_
              have p280 : 0 ≤ ((ji45) : Int) := of_decide_eq_true (by first | (with_reducible assumption) | assumption)
              have q280 : (ji45) < (t265.length : Int) := of_decide_eq_true (by first | (with_reducible assumption) | assumption)
              obtain ⟨ad280, A280_0, c280_0, e280, hx280_0, hl280_0, hi280_0⟩ := at_L3 (Kd.N_reads' HO_13.out).2.2 (ji45) p280 q280
              cases e280
              obtain ⟨ce280, hce280, hMe280, hcc280⟩ := Kd.N_get HO_13.out [] (ji45) p280 (by first | exact q280 | exact of_decide_eq_true (by first | (with_reducible assumption) | assumption) | (have e_ := (Kd.N_reads' HO_13.out).1; omega))
              obtain ⟨ua280_0, uc280_0, rfl, ul280_0, ge280_0⟩ := Kd.FK_slice_open hMe280
              have hv280_0 := hcc280 0 _ rfl
              rw [Nat.add_zero, show ((Kd.slice 5 (Kd.int .u8))).sz = 1 from rfl, Nat.mul_one] at hv280_0
              replace hv280_0 := Option.some.inj (hv280_0.symm.trans hx280_0)
              injection hv280_0 with hva_ hvn_ hvc_
              rw [hva_] at ge280_0
              rw [hvc_] at ul280_0
              have HL280_0 := Aside0.mk (show Kd.V (Kd.int .u8) 5 _ w.heap.size _ _ (rd_L3 t265 (ji45)) from Kd.V_mk ul280_0 ge280_0)
              clear hva_ hvn_ hvc_ ge280_0 ul280_0
              clear hcc280 hce280
              have HR280_0 := Aside0.mk hi280_0
              have HC280_0 := Aside0.mk hl280_0
              clear hi280_0 hl280_0
              replace p280 := eq_true p280
              replace q280 := eq_true q280
              have hcv52 := Kd.C_string (P := Try.prog) (A := A280_0) (c := c280_0) Try.underlying22 Try.underlying5 Try.underlying9 (by repeat (first | (with_reducible exact HR280_0.out) | (with_reducible refine Kd.C_alloc ?_ _) | (with_reducible refine Kd.C_drewN ?_ _) | (with_reducible refine Kd.C_drew ?_) | exact HR280_0.out))
              refine start_ (n := 15) (S := fun w' => (w'.cell? (ad280.add ((ji45)).toNat) = some (.slice A280_0 (rd_L3 t265 (ji45)).length c280_0)) ∧ Kd.C (Kd.int .u8) w' A280_0 (rd_L3 t265 (ji45)).length (rd_L3 t265 (ji45))) (ds := []) (bq_ 0 15) (by kernel_rfl) rfl rfl ⟨(hx280_0), Kd.C_drew HR280_0.out⟩ (fun hHeld => ?_); refine with_tabW impl_PartAt.tab15 impl_PartAt.bits15 (fun HT_ HW_ => ?_)
              generalize wr.drew = w51 at HO_13 HO_15 BK262 HB HL280_0 HR280_0 hx280_0 hHeld ⊢
              refine pu_ 0 (some 79) (bq_ 1 14) HT_ ?_
              refine pu_ 1 (some 80) (bq_ 2 13) HT_ ?_
              refine pu_ 2 (some 81) (bq_ 3 12) HT_ ?_
              refine pu_ 3 (some 82) (bq_ 4 11) HT_ ?_
              refine pu_ 4 (some 83) (bq_ 5 10) HT_ ?_
              refine pu_ 7 (some 86) #[true, true, true, true, true, false, false, true, false, false, false, false, false, false, false] HT_ ?_
              refine pu_ 8 (some 87) #[true, true, true, true, true, false, false, true, true, false, false, false, false, false, false] HT_ ?_
              refine pu_ 9 (some 88) #[true, true, true, true, true, false, false, true, true, true, false, false, false, false, false] HT_ ?_
              refine take_ (i := 5) (N := some 84) (v := ?_) (a' := ?_) #[true, true, true, true, true, true, false, true, true, true, false, false, false, false, false] rfl rfl (take_ofW HT_.out HW_.out (by kernel_rfl)) (fun _ _ _ h => h) (Or.inl ⟨by rfl, ?_⟩) hHeld ?_ ?_
              rotate_left
              · rintro w' ⟨s0, sc⟩
                go_simp
                with_reducible rfl
              rotate_left
              · simp only [Act.put, sa_, sz_, ss_, i64_w, i32_w]; rfl
              refine take_ (i := 6) (N := some 85) (v := ?_) (a' := ?_) (bq_ 10 5) rfl rfl (take_ofW HT_.out HW_.out (by kernel_rfl)) (fun _ _ _ h => h) (Or.inl ⟨by rfl, ?_⟩) hHeld ?_ ?_
              rotate_left
              · rintro w' ⟨_, sc⟩
                have hcv_ := Kd.C_string (P := Try.prog) (A := A280_0) (c := c280_0) Try.underlying22 Try.underlying5 Try.underlying9 sc
                go_simp
                with_reducible rfl
              rotate_left
              · simp only [Act.put, sa_, sz_, ss_, i64_w, i32_w]; rfl
              refine on_ 10 (some 89) (bq_ 11 4) HT_ (fun K hK => ?_)
              refine goes_ Try.func60 (by kernel_rfl) rfl #[.slice (some ad269) l0.length c0] (by rfl) rfl rfl al_ ?_
              with_reducible refine (impl_innerOf.calls k2 _ _ l0 t281 _ ?side1 ?side2 A48.out).mono ?_
              (case side1 => exact kc_ (Kd.C_below HR0.out HB.out))
              (case side2 => exact HC0.out)
              rintro e w53 ⟨rfl, hb⟩
              have HS0_ := (hb.cell (World.block_lt_of_cell? _ _ (hHeld.1))).trans (hHeld.1)
              have HSC_ := Kd.C_below hHeld.2 hb
              refine ⟨_, rfl, ?_⟩
              have n0_ := Aside0.mk (Kd.N_below (by (with_reducible repeat (first | apply Kd.N_alloc | apply Kd.N_drewN | apply Kd.N_drew)); exact HO_13.out) hb)
              have n1_ := Aside0.mk (Kd.N_below (by (with_reducible repeat (first | apply Kd.N_alloc | apply Kd.N_drewN | apply Kd.N_drew)); exact HO_15.out) hb)
              have n2_ := Aside0.mk (Kd.V_below (by (with_reducible repeat (first | apply Kd.V_alloc | apply Kd.V_drewN | apply Kd.V_drew)); exact HL280_0.out) hb)
              have n3_ := Aside0.mk (blk_below (g := gb262) (o := .cells #[.string a1_0, .string a1_1] 26 (0, 0)) (bk_ BK262.out) hb)
              have n4_ := Aside0.mk (Kd.C_below (by repeat (first | (with_reducible exact HR280_0.out) | (with_reducible refine Kd.C_alloc ?_ _) | (with_reducible refine Kd.C_drewN ?_ _) | (with_reducible refine Kd.C_drew ?_) | exact HR280_0.out)) hb)
              have n5_ := Aside0.mk (below_step (bs_ HB.out GE262.out) hb)
              clear HO_13
              clear HO_15
              clear HL280_0
              clear BK262
              clear HR280_0
              clear HB
              have HO_13 := n0_
              have HO_15 := n1_
              have HL280_0 := n2_
              have BK262 := n3_
              have HR280_0 := n4_
              have HB := n5_
              clear n0_ n1_ n2_ n3_ n4_ n5_
              (try clear hb)
              (try clear hb2)
              (try clear hk)
              (try clear hi)
              refine hK.out _ _ ⟨HS0_, HSC_⟩ (fun hHeld => ?_)
              clear hK K
              refine nm_ ?_
              refine on_ 11 (some 90) (bq_ 12 3) HT_ (fun K hK => ?_)
              refine goes_ Try.func59 (by kernel_rfl) rfl #[.int .i64 (l0.length : Int), .string t281] (by rfl) rfl rfl al_ ?_
              with_reducible refine (impl_rootBytes.calls k2 (l0.length : Int) t281 t282 _ A49.out).mono ?_
              rintro e w54 ⟨v283, rfl, ho0, hb⟩
              have HS0_ := (hb.cell (World.block_lt_of_cell? _ _ (hHeld.1))).trans (hHeld.1)
              have HSC_ := Kd.C_below hHeld.2 hb
              refine ⟨_, rfl, ?_⟩
              have n0_ := Aside0.mk (Kd.N_elder' (by (with_reducible repeat (first | apply Kd.N_alloc | apply Kd.N_drewN | apply Kd.N_drew)); exact HO_13.out) (Kd.R_base ho0) hb)
              have n1_ := Aside0.mk (Kd.N_elder' (by (with_reducible repeat (first | apply Kd.N_alloc | apply Kd.N_drewN | apply Kd.N_drew)); exact HO_15.out) (Kd.R_base ho0) hb)
              have n2_ := Aside0.mk (Kd.V_elder' (by (with_reducible repeat (first | apply Kd.V_alloc | apply Kd.V_drewN | apply Kd.V_drew)); exact HL280_0.out) (Kd.R_base ho0) hb)
              have n3_ := Aside0.mk (Kd.R_lower ho0 (below_size (bs_ HB.out GE262.out)))
              have n4_ := Aside0.mk (blk_below (g := gb262) (o := .cells #[.string a1_0, .string a1_1] 26 (0, 0)) (bk_ BK262.out) hb)
              have n5_ := Aside0.mk (Kd.C_below (by repeat (first | (with_reducible exact HR280_0.out) | (with_reducible refine Kd.C_alloc ?_ _) | (with_reducible refine Kd.C_drewN ?_ _) | (with_reducible refine Kd.C_drew ?_) | exact HR280_0.out)) hb)
              have n6_ := Aside0.mk (below_step (bs_ HB.out GE262.out) hb)
              clear HO_13
              clear HO_15
              clear HL280_0
              clear BK262
              clear HR280_0
              clear HB
              have HO_13 := n0_
              have HO_15 := n1_
              have HL280_0 := n2_
              have HO284 := n3_
              have BK262 := n4_
              have HR280_0 := n5_
              have HB := n6_
              clear n0_ n1_ n2_ n3_ n4_ n5_ n6_
              (try clear hb)
              (try clear hb2)
              (try clear hk)
              (try clear hi)
              (try clear ho0)
              refine hK.out _ _ ⟨HS0_, HSC_⟩ (fun hHeld => ?_)
              clear hK K
              refine nm_ ?_
              refine pu_ 13 (some 20) #[true, true, true, true, true, true, true, true, true, true, true, true, false, true, false] HT_ ?_
              refine on_ 12 (some 91) (bq_ 14 1) HT_ (fun K hK => ?_)
              have hcv55 := own_string (P := Try.prog) Try.underlying22 Try.underlying5 Try.underlying9 (Kd.own_of_R HO284.out)
              refine value_ (w1 := ?_) (v := ?_) (by rfl) rfl ?_ ?_
              rotate_left 2
              · go_simp
                constructor
                · rfl
                · rfl
              clear hcv55
              refine hK.out _ _ hHeld (fun hHeld => ?_)
              clear hK K
              refine nm_ ?_
              refine pu_ 14 (some 21) (bq_ 15 0) HT_ ?_
              refine done_ (done_of HT_.out (by kernel_rfl)) ?_
              try go_wp2_with (first | ((with_reducible refine gate_callee (f := 58) rfl ?_); refine goesL_ (some 96) rfl rfl Try.func58 (by kernel_rfl) rfl #[.string (strOfNums (rd_L3 t265 (ji45))), .string (strOfNums t282)] rfl (by (try simp only [List.map_toArray, List.map_cons, List.map_nil]); first | done | (simp only [hji45]; rfl) | rfl | (simp only [List.length_drop, List.length_take]; rfl)) ?_; (with_reducible refine (impl_isFull.calls k2 (strOfNums (rd_L3 t265 (ji45))) (strOfNums t282) t285 _ A50.out).mono ?_); rintro e w57 ⟨rfl, hb⟩; refine ⟨_, rfl, ?_⟩; have n0_ := Aside0.mk (Kd.N_below (by (with_reducible repeat (first | apply Kd.N_alloc | apply Kd.N_drewN | apply Kd.N_drew)); exact HO_13.out) hb); have n1_ := Aside0.mk (Kd.N_below (by (with_reducible repeat (first | apply Kd.N_alloc | apply Kd.N_drewN | apply Kd.N_drew)); exact HO_15.out) hb); have n2_ := Aside0.mk (Kd.V_below (by (with_reducible repeat (first | apply Kd.V_alloc | apply Kd.V_drewN | apply Kd.V_drew)); exact HL280_0.out) hb); have n3_ := Aside0.mk (Kd.R_below (kr_ HO284.out) hb); have n4_ := Aside0.mk (blk_below (g := gb262) (o := .cells #[.string a1_0, .string a1_1] 26 (0, 0)) (bk_ BK262.out) hb); have n5_ := Aside0.mk (below_step (bs_ HB.out GE262.out) hb); clear HO_13; clear HO_15; clear HL280_0; clear HO284; clear BK262; clear HB; have HO_13 := n0_; have HO_15 := n1_; have HL280_0 := n2_; have HO284 := n3_; have BK262 := n4_; have HB := n5_; clear n0_ n1_ n2_ n3_ n4_ n5_; (try clear hb); (try clear hb2); (try clear hk); (try clear hi)))
              go_ret3
              exact ⟨by first | rfl | (simp [errW_none, errW_some] <;> rfl) | (simp only [← hji45]; first | rfl | (simp [errW_none, errW_some] <;> rfl)) | (simp [*, errW_none, errW_some] <;> rfl), bs_ HB.out GE262.out⟩
        · rw [if_neg c15] at H
          have c15b0 : ((l0.length : Int) == a3) = false := beq_eq_false_iff_ne.mpr c15
          have c15b1 : ((l0.length : Int) != a3) = true := bne_iff_ne.mpr c15
          obtain ⟨ji58, hji58⟩ : ∃ j_ : Int, (wrap64 ((t265.length : Int) - 1)) = j_ := ⟨_, rfl⟩
          replace H : (if 0 ≤ (ji58) then (if (ji58) < (t265.length : Int) then ((impl_innerOf.f kj5 l0).bind fun t287 => ((impl_rootBytes.f kj5 (l0.length : Int) t287).bind fun t288 => ((impl_isFull.f kj5 (strOfNums (rd_L3 t265 (ji58))) (strOfNums t288)).bind fun t291 => (some (strOfNums (rd_L3 t265 (ji58)), strOfNums t288, t291))))) else (none)) else (none)) = some (r1, r2, r3) := by first | (rw [hji58] at H; exact H) | (simp only [hji58] at H ⊢; exact H)
          (try rw [hji58] at A13)
          have hji58w : (IntKind.i64.wrap ((t265.length : Int) - 1)) = ji58 := (i64_w _).trans hji58
          by_cases c59 : 0 ≤ (ji58)
          rotate_left
          · rw [if_neg c59] at H; exact absurd H (by simp)
          rw [if_pos c59] at H
          have c59b0 : decide (0 ≤ (ji58)) = true := decide_eq_true c59
          clear c59
          by_cases c60 : (ji58) < (t265.length : Int)
          rotate_left
          · rw [if_neg c60] at H; exact absurd H (by simp)
          rw [if_pos c60] at H
          have c60b0 : decide ((ji58) < (t265.length : Int)) = true := decide_eq_true c60
          clear c60
          replace H := Option.bind_eq_some_iff.mp H
          obtain ⟨t287, A610, H⟩ := H
          have A61 := Aside0.mk A610
          clear A610
          replace H := Option.bind_eq_some_iff.mp H
          obtain ⟨t288, A620, H⟩ := H
          have A62 := Aside0.mk A620
          clear A620
          replace H := Option.bind_eq_some_iff.mp H
          obtain ⟨t291, A630, H⟩ := H
          have A63 := Aside0.mk A630
          clear A630
          simp only [Option.some.injEq, Prod.mk.injEq] at H
          obtain ⟨rfl, rfl, rfl⟩ := H
          have hcz64_0 : wc.cell? ⟨gb262, 0, none⟩ = some (.string a1_0) := (blk_cell BK262.out 0).trans rfl
          have hcz64_1 : wc.cell? ⟨gb262, 1, none⟩ = some (.string a1_1) := (blk_cell BK262.out 1).trans rfl
          have hfz64_0 := blk_frozen BK262.out 0
          have hfz64_1 := blk_frozen BK262.out 1
          try go_wp2_with (first | ((with_reducible refine gate_callee (f := 56) rfl ?_); refine goesL_ (some 36) rfl rfl Try.func56 (by kernel_rfl) rfl #[.agg #[.string a1_0, .string a1_1], .int .i64 a2, .int .i64 a3, .slice A4 l4.length c4] rfl al_ ?_; (with_reducible refine (impl_wayTo.calls kj5 a1_0 a1_1 a2 a3 _ _ l4 t265 true _ ?side1 ?side2 A13.out).mono ?_); (case side1 => exact kc_ (Kd.C_below HR4.out HB.out)); (case side2 => exact HC4.out); rintro e w65 ⟨v266, rfl, ho0, hb⟩; refine ⟨_, rfl, ?_⟩; have n0_ := Aside0.mk (Kd.N_lower (Kd.N_mono (ok' := fun k_ => k_ ≠ gb262) ho0 (fun k_ hk_ => (Kd.freshB (g := gb262) (o := .cells #[.string a1_0, .string a1_1] 26 (0, 0)) (bk_ BK262.out) k_ hk_))) (below_size (bs_ HB.out GE262.out))); have n1_ := Aside0.mk (blk_below (g := gb262) (o := .cells #[.string a1_0, .string a1_1] 26 (0, 0)) (bk_ BK262.out) hb); have n2_ := Aside0.mk (below_step (bs_ HB.out GE262.out) hb); clear BK262; clear HB; have HO267 := n0_; have BK262 := n1_; have HB := n2_; clear n0_ n1_ n2_; (try clear hb); (try clear hb2); (try clear hk); (try clear hi); (try clear ho0)))
          have n0_ := Aside0.mk (Kd.N_drew HO267.out)
          have n1_ := Aside0.mk (blk_drew BK262.out)
          have n2_ := Aside0.mk (below_drew1 HB.out)
          clear HO267
          clear BK262
          clear HB
          have HO267 := n0_
          have BK262 := n1_
          have HB := n2_
          clear n0_ n1_ n2_
          obtain ⟨Ao67, co67, eo67⟩ := Kd.N_slice HO267.out
          (first | subst eo67 | (injection eo67 with f1_ f2_ f3_; have f4_ := f1_.symm; have f5_ := f3_.symm; clear f1_ f2_ f3_; subst f4_; subst f5_))
          have p286 : 0 ≤ ((ji58) : Int) := of_decide_eq_true (by first | (with_reducible assumption) | assumption)
          have q286 : (ji58) < (t265.length : Int) := of_decide_eq_true (by first | (with_reducible assumption) | assumption)
          obtain ⟨ad286, A286_0, c286_0, e286, hx286_0, hl286_0, hi286_0⟩ := at_L3 (Kd.N_reads' HO267.out).2.2 (ji58) p286 q286
          cases e286
          obtain ⟨ce286, hce286, hMe286, hcc286⟩ := Kd.N_get HO267.out [] (ji58) p286 (by first | exact q286 | exact of_decide_eq_true (by first | (with_reducible assumption) | assumption) | (have e_ := (Kd.N_reads' HO267.out).1; omega))
          obtain ⟨ua286_0, uc286_0, rfl, ul286_0, ge286_0⟩ := Kd.FK_slice_open hMe286
          have hv286_0 := hcc286 0 _ rfl
          rw [Nat.add_zero, show ((Kd.slice 5 (Kd.int .u8))).sz = 1 from rfl, Nat.mul_one] at hv286_0
          replace hv286_0 := Option.some.inj (hv286_0.symm.trans hx286_0)
          injection hv286_0 with hva_ hvn_ hvc_
          rw [hva_] at ge286_0
          rw [hvc_] at ul286_0
          have HL286_0 := Aside0.mk (show Kd.V (Kd.int .u8) 5 _ w.heap.size _ _ (rd_L3 t265 (ji58)) from Kd.V_mk ul286_0 ge286_0)
          clear hva_ hvn_ hvc_ ge286_0 ul286_0
          clear hcc286 hce286
          have HR286_0 := Aside0.mk hi286_0
          have HC286_0 := Aside0.mk hl286_0
          clear hi286_0 hl286_0
          replace p286 := eq_true p286
          replace q286 := eq_true q286
          have hcv68 := Kd.C_string (P := Try.prog) (A := A286_0) (c := c286_0) Try.underlying22 Try.underlying5 Try.underlying9 (by repeat (first | (with_reducible exact HR286_0.out) | (with_reducible refine Kd.C_alloc ?_ _) | (with_reducible refine Kd.C_drewN ?_ _) | (with_reducible refine Kd.C_drew ?_) | exact HR286_0.out))
          refine start_ (n := 15) (S := fun w' => (w'.cell? (ad286.add ((ji58)).toNat) = some (.slice A286_0 (rd_L3 t265 (ji58)).length c286_0)) ∧ Kd.C (Kd.int .u8) w' A286_0 (rd_L3 t265 (ji58)).length (rd_L3 t265 (ji58))) (ds := []) (bq_ 0 15) (by kernel_rfl) rfl rfl ⟨(hx286_0), Kd.C_drew HR286_0.out⟩ (fun hHeld => ?_); refine with_tabW impl_PartAt.tab15 impl_PartAt.bits15 (fun HT_ HW_ => ?_)
          generalize w65.drew = w66 at HO267 BK262 HB HL286_0 HR286_0 hx286_0 hHeld ⊢
          refine pu_ 0 (some 79) (bq_ 1 14) HT_ ?_
          refine pu_ 1 (some 80) (bq_ 2 13) HT_ ?_
          refine pu_ 2 (some 81) (bq_ 3 12) HT_ ?_
          refine pu_ 3 (some 82) (bq_ 4 11) HT_ ?_
          refine pu_ 4 (some 83) (bq_ 5 10) HT_ ?_
          refine pu_ 7 (some 86) #[true, true, true, true, true, false, false, true, false, false, false, false, false, false, false] HT_ ?_
          refine pu_ 8 (some 87) #[true, true, true, true, true, false, false, true, true, false, false, false, false, false, false] HT_ ?_
          refine pu_ 9 (some 88) #[true, true, true, true, true, false, false, true, true, true, false, false, false, false, false] HT_ ?_
          refine take_ (i := 5) (N := some 84) (v := ?_) (a' := ?_) #[true, true, true, true, true, true, false, true, true, true, false, false, false, false, false] rfl rfl (take_ofW HT_.out HW_.out (by kernel_rfl)) (fun _ _ _ h => h) (Or.inl ⟨by rfl, ?_⟩) hHeld ?_ ?_
          rotate_left
          · rintro w' ⟨s0, sc⟩
            go_simp
            with_reducible rfl
          rotate_left
          · simp only [Act.put, sa_, sz_, ss_, i64_w, i32_w]; rfl
          refine take_ (i := 6) (N := some 85) (v := ?_) (a' := ?_) (bq_ 10 5) rfl rfl (take_ofW HT_.out HW_.out (by kernel_rfl)) (fun _ _ _ h => h) (Or.inl ⟨by rfl, ?_⟩) hHeld ?_ ?_
          rotate_left
          · rintro w' ⟨_, sc⟩
            have hcv_ := Kd.C_string (P := Try.prog) (A := A286_0) (c := c286_0) Try.underlying22 Try.underlying5 Try.underlying9 sc
            go_simp
            with_reducible rfl
          rotate_left
          · simp only [Act.put, sa_, sz_, ss_, i64_w, i32_w]; rfl
          refine on_ 10 (some 89) (bq_ 11 4) HT_ (fun K hK => ?_)
          refine goes_ Try.func60 (by kernel_rfl) rfl #[.slice A0 l0.length c0] (by rfl) rfl rfl al_ ?_
          with_reducible refine (impl_innerOf.calls kj5 _ _ l0 t287 _ ?side1 ?side2 A61.out).mono ?_
          (case side1 => exact kc_ (Kd.C_below HR0.out HB.out))
          (case side2 => exact HC0.out)
          rintro e w69 ⟨rfl, hb⟩
          have HS0_ := (hb.cell (World.block_lt_of_cell? _ _ (hHeld.1))).trans (hHeld.1)
          have HSC_ := Kd.C_below hHeld.2 hb
          refine ⟨_, rfl, ?_⟩
          have n0_ := Aside0.mk (Kd.N_below (by (with_reducible repeat (first | apply Kd.N_alloc | apply Kd.N_drewN | apply Kd.N_drew)); exact HO267.out) hb)
          have n1_ := Aside0.mk (Kd.V_below (by (with_reducible repeat (first | apply Kd.V_alloc | apply Kd.V_drewN | apply Kd.V_drew)); exact HL286_0.out) hb)
          have n2_ := Aside0.mk (blk_below (g := gb262) (o := .cells #[.string a1_0, .string a1_1] 26 (0, 0)) (bk_ BK262.out) hb)
          have n3_ := Aside0.mk (Kd.C_below (by repeat (first | (with_reducible exact HR286_0.out) | (with_reducible refine Kd.C_alloc ?_ _) | (with_reducible refine Kd.C_drewN ?_ _) | (with_reducible refine Kd.C_drew ?_) | exact HR286_0.out)) hb)
          have n4_ := Aside0.mk (below_step (bs_ HB.out GE262.out) hb)
          clear HO267
          clear HL286_0
          clear BK262
          clear HR286_0
          clear HB
          have HO267 := n0_
          have HL286_0 := n1_
          have BK262 := n2_
          have HR286_0 := n3_
          have HB := n4_
          clear n0_ n1_ n2_ n3_ n4_
          (try clear hb)
          (try clear hb2)
          (try clear hk)
          (try clear hi)
          refine hK.out _ _ ⟨HS0_, HSC_⟩ (fun hHeld => ?_)
          clear hK K
          refine nm_ ?_
          refine on_ 11 (some 90) (bq_ 12 3) HT_ (fun K hK => ?_)
          refine goes_ Try.func59 (by kernel_rfl) rfl #[.int .i64 (l0.length : Int), .string t287] (by rfl) rfl rfl al_ ?_
          with_reducible refine (impl_rootBytes.calls kj5 (l0.length : Int) t287 t288 _ A62.out).mono ?_
          rintro e w70 ⟨v289, rfl, ho0, hb⟩
          have HS0_ := (hb.cell (World.block_lt_of_cell? _ _ (hHeld.1))).trans (hHeld.1)
          have HSC_ := Kd.C_below hHeld.2 hb
          refine ⟨_, rfl, ?_⟩
          have n0_ := Aside0.mk (Kd.N_elder' (by (with_reducible repeat (first | apply Kd.N_alloc | apply Kd.N_drewN | apply Kd.N_drew)); exact HO267.out) (Kd.R_base ho0) hb)
          have n1_ := Aside0.mk (Kd.V_elder' (by (with_reducible repeat (first | apply Kd.V_alloc | apply Kd.V_drewN | apply Kd.V_drew)); exact HL286_0.out) (Kd.R_base ho0) hb)
          have n2_ := Aside0.mk (Kd.R_lower ho0 (below_size (bs_ HB.out GE262.out)))
          have n3_ := Aside0.mk (blk_below (g := gb262) (o := .cells #[.string a1_0, .string a1_1] 26 (0, 0)) (bk_ BK262.out) hb)
          have n4_ := Aside0.mk (Kd.C_below (by repeat (first | (with_reducible exact HR286_0.out) | (with_reducible refine Kd.C_alloc ?_ _) | (with_reducible refine Kd.C_drewN ?_ _) | (with_reducible refine Kd.C_drew ?_) | exact HR286_0.out)) hb)
          have n5_ := Aside0.mk (below_step (bs_ HB.out GE262.out) hb)
          clear HO267
          clear HL286_0
          clear BK262
          clear HR286_0
          clear HB
          have HO267 := n0_
          have HL286_0 := n1_
          have HO290 := n2_
          have BK262 := n3_
          have HR286_0 := n4_
          have HB := n5_
          clear n0_ n1_ n2_ n3_ n4_ n5_
          (try clear hb)
          (try clear hb2)
          (try clear hk)
          (try clear hi)
          (try clear ho0)
          refine hK.out _ _ ⟨HS0_, HSC_⟩ (fun hHeld => ?_)
          clear hK K
          refine nm_ ?_
          refine pu_ 13 (some 20) #[true, true, true, true, true, true, true, true, true, true, true, true, false, true, false] HT_ ?_
          refine on_ 12 (some 91) (bq_ 14 1) HT_ (fun K hK => ?_)
          have hcv71 := own_string (P := Try.prog) Try.underlying22 Try.underlying5 Try.underlying9 (Kd.own_of_R HO290.out)
          refine value_ (w1 := ?_) (v := ?_) (by rfl) rfl ?_ ?_
          rotate_left 2
          · go_simp
            constructor
            · rfl
            · rfl
          clear hcv71
          refine hK.out _ _ hHeld (fun hHeld => ?_)
          clear hK K
          refine nm_ ?_
          refine pu_ 14 (some 21) (bq_ 15 0) HT_ ?_
          refine done_ (done_of HT_.out (by kernel_rfl)) ?_
          try go_wp2_with (first | ((with_reducible refine gate_callee (f := 58) rfl ?_); refine goesL_ (some 96) rfl rfl Try.func58 (by kernel_rfl) rfl #[.string (strOfNums (rd_L3 t265 (ji58))), .string (strOfNums t288)] rfl (by (try simp only [List.map_toArray, List.map_cons, List.map_nil]); first | done | (simp only [hji58]; rfl) | rfl | (simp only [List.length_drop, List.length_take]; rfl)) ?_; (with_reducible refine (impl_isFull.calls kj5 (strOfNums (rd_L3 t265 (ji58))) (strOfNums t288) t291 _ A63.out).mono ?_); rintro e w73 ⟨rfl, hb⟩; refine ⟨_, rfl, ?_⟩; have n0_ := Aside0.mk (Kd.N_below (by (with_reducible repeat (first | apply Kd.N_alloc | apply Kd.N_drewN | apply Kd.N_drew)); exact HO267.out) hb); have n1_ := Aside0.mk (Kd.V_below (by (with_reducible repeat (first | apply Kd.V_alloc | apply Kd.V_drewN | apply Kd.V_drew)); exact HL286_0.out) hb); have n2_ := Aside0.mk (Kd.R_below (kr_ HO290.out) hb); have n3_ := Aside0.mk (blk_below (g := gb262) (o := .cells #[.string a1_0, .string a1_1] 26 (0, 0)) (bk_ BK262.out) hb); have n4_ := Aside0.mk (below_step (bs_ HB.out GE262.out) hb); clear HO267; clear HL286_0; clear HO290; clear BK262; clear HB; have HO267 := n0_; have HL286_0 := n1_; have HO290 := n2_; have BK262 := n3_; have HB := n4_; clear n0_ n1_ n2_ n3_ n4_; (try clear hb); (try clear hb2); (try clear hk); (try clear hi)))
          go_ret3
          exact ⟨by first | rfl | (simp [errW_none, errW_some] <;> rfl) | (simp only [← hji58]; first | rfl | (simp [errW_none, errW_some] <;> rfl)) | (simp [*, errW_none, errW_some] <;> rfl), bs_ HB.out GE262.out⟩
      · replace c14 := Bool.eq_false_iff.mpr c14
        subst c14
        have H1 : (some ((⟨#[]⟩ : ByteArray), (⟨#[]⟩ : ByteArray), false)) = some (r1, r2, r3) := by rw [if_neg (show ¬ (false = true) by decide)] at H; exact H
        clear H
        have H := H1
        clear H1
        simp only [Option.some.injEq, Prod.mk.injEq] at H
        obtain ⟨rfl, rfl, rfl⟩ := H
        have hcz74_0 : wc.cell? ⟨gb262, 0, none⟩ = some (.string a1_0) := (blk_cell BK262.out 0).trans rfl
        have hcz74_1 : wc.cell? ⟨gb262, 1, none⟩ = some (.string a1_1) := (blk_cell BK262.out 1).trans rfl
        have hfz74_0 := blk_frozen BK262.out 0
        have hfz74_1 := blk_frozen BK262.out 1
        go_wp2_with (first | ((with_reducible refine gate_callee (f := 56) rfl ?_); refine goesL_ (some 36) rfl rfl Try.func56 (by kernel_rfl) rfl #[.agg #[.string a1_0, .string a1_1], .int .i64 a2, .int .i64 a3, .slice A4 l4.length c4] rfl al_ ?_; (with_reducible refine (impl_wayTo.calls kj5 a1_0 a1_1 a2 a3 _ _ l4 t265 false _ ?side1 ?side2 A13.out).mono ?_); (case side1 => exact kc_ (Kd.C_below HR4.out HB.out)); (case side2 => exact HC4.out); rintro e w75 ⟨v266, rfl, ho0, hb⟩; refine ⟨_, rfl, ?_⟩; have n0_ := Aside0.mk (Kd.N_lower (Kd.N_mono (ok' := fun k_ => k_ ≠ gb262) ho0 (fun k_ hk_ => (Kd.freshB (g := gb262) (o := .cells #[.string a1_0, .string a1_1] 26 (0, 0)) (bk_ BK262.out) k_ hk_))) (below_size (bs_ HB.out GE262.out))); have n1_ := Aside0.mk (blk_below (g := gb262) (o := .cells #[.string a1_0, .string a1_1] 26 (0, 0)) (bk_ BK262.out) hb); have n2_ := Aside0.mk (below_step (bs_ HB.out GE262.out) hb); clear BK262; clear HB; have HO267 := n0_; have BK262 := n1_; have HB := n2_; clear n0_ n1_ n2_; (try clear hb); (try clear hb2); (try clear hk); (try clear hi); (try clear ho0)))
        go_ret3
        exact ⟨by first | rfl | (simp [errW_none, errW_some] <;> rfl) | (simp [*, errW_none, errW_some] <;> rfl), bs_ HB.out GE262.out⟩

/-! ###  impl_rootOf: function 69 -/
def impl_rootOf.f (k : Nat) (l0 : List (S26)) : Option (ByteArray) := (impl_innerOf.f k l0).bind fun t292 => ((impl_rootBytes.f k (l0.length : Int) t292).bind fun t293 => ((impl_Digest.f k t293).bind fun t296 => (some t296)))
set_option maxHeartbeats 8000000 in
set_option maxRecDepth 100000 in
theorem impl_rootOf.calls (k : Nat) (A0 : Option Addr) (c0 : Nat) (l0 : List (S26)) (r : ByteArray) (w : World) (hr0 : Kd.C k26 w A0 l0.length l0) (hc0 : l0.length ≤ c0) (h : impl_rootOf.f k l0 = some r) :
  Calls Try.prog 69 #[.slice A0 l0.length c0] w fun e w' => e = .returned (.string r) ∧ Below w.heap.size w w' := by
  have HR0 := Aside0.mk hr0
  have HC0 := Aside0.mk hc0
  clear hr0 hc0
  have HB := Aside0.mk (Below.refl w.heap.size w)
  have H : ((impl_innerOf.f k l0).bind fun t292 => ((impl_rootBytes.f k (l0.length : Int) t292).bind fun t293 => ((impl_Digest.f k t293).bind fun t296 => (some t296)))) = some r := h
  clear h
  replace H := Option.bind_eq_some_iff.mp H
  obtain ⟨t292, A20, H⟩ := H
  have A2 := Aside0.mk A20
  clear A20
  replace H := Option.bind_eq_some_iff.mp H
  obtain ⟨t293, A30, H⟩ := H
  have A3 := Aside0.mk A30
  clear A30
  replace H := Option.bind_eq_some_iff.mp H
  obtain ⟨t296, A40, H⟩ := H
  have A4 := Aside0.mk A40
  clear A40
  obtain rfl := Option.some.inj H
  go_enter Try.func69, Try.ntmps69
  go_wp2_with (first | ((with_reducible refine gate_callee (f := 60) rfl ?_); refine goesL_ (some 6) rfl rfl Try.func60 (by kernel_rfl) rfl #[.slice A0 l0.length c0] rfl al_ ?_; (with_reducible refine (impl_innerOf.calls k _ _ l0 t292 _ ?side1 ?side2 A2.out).mono ?_); (case side1 => exact kc_ HR0.out); (case side2 => exact HC0.out); rintro e w5 ⟨rfl, hb⟩; refine ⟨_, rfl, ?_⟩; have n0_ := Aside0.mk (below_step (be_ HB.out) hb); clear HB; have HB := n0_; clear n0_; (try clear hb); (try clear hb2); (try clear hk); (try clear hi)) | ((with_reducible refine gate_callee (f := 59) rfl ?_); refine goesL_ (some 7) rfl rfl Try.func59 (by kernel_rfl) rfl #[.int .i64 (l0.length : Int), .string t292] rfl al_ ?_; (with_reducible refine (impl_rootBytes.calls k (l0.length : Int) t292 t293 _ A3.out).mono ?_); rintro e w6 ⟨v294, rfl, ho0, hb⟩; refine ⟨_, rfl, ?_⟩; have n0_ := Aside0.mk (Kd.R_lower ho0 (below_size (be_ HB.out))); have n1_ := Aside0.mk (below_step (be_ HB.out) hb); clear HB; have HO295 := n0_; have HB := n1_; clear n0_ n1_; (try clear hb); (try clear hb2); (try clear hk); (try clear hi); (try clear ho0); obtain ⟨Ao7, co7, eo7⟩ := Kd.R_slice HO295.out; subst eo7) | ((with_reducible refine gate_callee (f := 67) rfl ?_); refine goesL_ (some 8) rfl rfl Try.func67 (by kernel_rfl) rfl #[.slice Ao7 t293.length co7] rfl al_ ?_; (with_reducible refine (impl_Digest.calls k _ _ t293 t296 _ ?side1 ?side2 A4.out).mono ?_); (case side1 => exact kc_ (Kd.R_reads' HO295.out).2.2); (case side2 => exact (Kd.R_reads' HO295.out).2.1); rintro e w8 ⟨rfl, hb⟩; refine ⟨_, rfl, ?_⟩; have n0_ := Aside0.mk (Kd.R_below (kr_ HO295.out) hb); have n1_ := Aside0.mk (below_step (be_ HB.out) hb); clear HO295; clear HB; have HO295 := n0_; have HB := n1_; clear n0_ n1_; (try clear hb); (try clear hb2); (try clear hk); (try clear hi)))
  go_ret
  exact ⟨by first | rfl | (simp [errW_none, errW_some] <;> rfl) | (simp [*, errW_none, errW_some] <;> rfl), be_ HB.out⟩

/-! ###  impl_RootOf: function 16 -/
def impl_RootOf.f (k : Nat) (l0 : List (S26)) : Option (ByteArray) := if (l0.length : Int) > 60 then (some (⟨#[]⟩ : ByteArray)) else ((impl_rootOf.f k l0).bind fun t297 => (some t297))
set_option maxHeartbeats 8000000 in
set_option maxRecDepth 100000 in
theorem impl_RootOf.calls (k : Nat) (A0 : Option Addr) (c0 : Nat) (l0 : List (S26)) (r : ByteArray) (w : World) (hr0 : Kd.C k26 w A0 l0.length l0) (hc0 : l0.length ≤ c0) (h : impl_RootOf.f k l0 = some r) :
  Calls Try.prog 16 #[.slice A0 l0.length c0] w fun e w' => e = .returned (.string r) ∧ Below w.heap.size w w' := by
  have HR0 := Aside0.mk hr0
  have HC0 := Aside0.mk hc0
  clear hr0 hc0
  have HB := Aside0.mk (Below.refl w.heap.size w)
  have H : (if (l0.length : Int) > 60 then (some (⟨#[]⟩ : ByteArray)) else ((impl_rootOf.f k l0).bind fun t297 => (some t297))) = some r := h
  clear h
  by_cases c2 : (l0.length : Int) > 60
  · rw [if_pos c2] at H
    have c2b0 : decide (60 < (l0.length : Int)) = true := decide_eq_true c2
    have c2b1 : decide (60 < l0.length) = true := decide_eq_true (by omega)
    clear c2
    obtain rfl := Option.some.inj H
    go_enter Try.func16, Try.ntmps16
    go_wp2
    go_ret
    exact ⟨by first | rfl | (simp [errW_none, errW_some] <;> rfl) | (simp [*, errW_none, errW_some] <;> rfl), be_ HB.out⟩
  · rw [if_neg c2] at H
    have c2b0 : decide (60 < (l0.length : Int)) = false := decide_eq_false c2
    have c2b1 : decide (60 < l0.length) = false := decide_eq_false (by omega)
    clear c2
    replace H := Option.bind_eq_some_iff.mp H
    obtain ⟨t297, A30, H⟩ := H
    have A3 := Aside0.mk A30
    clear A30
    obtain rfl := Option.some.inj H
    go_enter Try.func16, Try.ntmps16
    go_wp2_with (first | ((with_reducible refine gate_callee (f := 69) rfl ?_); refine goesL_ (some 7) rfl rfl Try.func69 (by kernel_rfl) rfl #[.slice A0 l0.length c0] rfl al_ ?_; (with_reducible refine (impl_rootOf.calls k _ _ l0 t297 _ ?side1 ?side2 A3.out).mono ?_); (case side1 => exact kc_ HR0.out); (case side2 => exact HC0.out); rintro e w4 ⟨rfl, hb⟩; refine ⟨_, rfl, ?_⟩; have n0_ := Aside0.mk (below_step (be_ HB.out) hb); clear HB; have HB := n0_; clear n0_; (try clear hb); (try clear hb2); (try clear hk); (try clear hi)))
    go_ret
    exact ⟨by first | rfl | (simp [errW_none, errW_some] <;> rfl) | (simp [*, errW_none, errW_some] <;> rfl), be_ HB.out⟩

/-! ###  spec_l4Top: function 104 -/
def spec_l4Top.f (k : Nat) (a0 : Int) (a1 : ByteArray) : Option (List Int) := (spec_PutNum.f k (([2] : List Int)) a0).bind fun t470 => (if t470.length + a1.size < 140737488355328 then (some (t470 ++ bytesOf a1)) else (none))
set_option maxHeartbeats 8000000 in
set_option maxRecDepth 100000 in
theorem spec_l4Top.calls (k : Nat) (a0 : Int) (a1 : ByteArray) (r : List Int) (w : World) (h : spec_l4Top.f k a0 a1 = some r) :
  Calls Try.prog 104 #[.int .i64 a0, .string a1] w fun e w' => ∃ v0_ : Value, e = .returned (v0_) ∧ Kd.R (Kd.int .u8) 5 w' w.heap.size (fun _ => True) v0_ r ∧ Below w.heap.size w w' := by
  have HB := Aside0.mk (Below.refl w.heap.size w)
  have H : ((spec_PutNum.f k (([2] : List Int)) a0).bind fun t470 => (if t470.length + a1.size < 140737488355328 then (some (t470 ++ bytesOf a1)) else (none))) = some r := h
  clear h
  obtain ⟨y467, hy467⟩ : ∃ y_ : List Int, y_ = (([2] : List Int)) := ⟨_, rfl⟩
  replace H : ((spec_PutNum.f k y467 a0).bind fun t470 => (if t470.length + a1.size < 140737488355328 then (some (t470 ++ bytesOf a1)) else (none))) = some r := by first | (rw [hy467]; with_reducible exact H) | (have H2_ := (Option.bind_some _ _).symm.trans H; rw [hy467]; with_reducible exact H2_) | (have H2_ := (Option.bind_some _ _).symm.trans H; with_reducible exact H2_) | with_reducible exact H | (rw [hy467]; exact H) | exact H
  have Ny467 := Aside0.mk hy467
  clear hy467
  replace H := Option.bind_eq_some_iff.mp H
  obtain ⟨t470, A30, H⟩ := H
  have A3 := Aside0.mk A30
  clear A30
  by_cases c4 : t470.length + a1.size < 140737488355328
  rotate_left
  · rw [if_neg c4] at H; exact absurd H (by simp)
  rw [if_pos c4] at H
  have LMc4 := Aside0.mk c4
  clear c4
  obtain ⟨y473, hy473⟩ : ∃ y_ : List Int, y_ = (t470 ++ bytesOf a1) := ⟨_, rfl⟩
  replace H : (some y473) = some r := by first | (rw [hy473]; with_reducible exact H) | (have H2_ := (Option.bind_some _ _).symm.trans H; rw [hy473]; with_reducible exact H2_) | (have H2_ := (Option.bind_some _ _).symm.trans H; with_reducible exact H2_) | with_reducible exact H | (rw [hy473]; exact H) | exact H
  have Ny473 := Aside0.mk hy473
  clear hy473
  obtain rfl := Option.some.inj H
  go_enter Try.func104, Try.ntmps104
  go_wp2_with (first | ((with_reducible refine gate_dst (N := 5) rfl ?_); refine Kd.R_lit (Kd.int .u8) _ 5 ?hg (N := 5) ?hd (xs := ([2] : List Int)) (inner := [.int .u8 2]) (ok := fun _ => True) (okp := fun _ => True) ?hr ?hp (fun _ hk => hk) trivial (Below.refl _ _) (Nat.le_refl _) (by simp) ?_; (case hd => rfl); (case hg => rfl); (case hr => first | (go_simp; done) | (go_simp; rfl)); (case hp => exact (Reps.one (show Kd.M (Kd.int .u8) _ _ _ 2 [.int .u8 2] from rfl) (Reps.none _ _))); intro v468 w5 ho6 hb hg_ hnew_; clear hg_ hnew_; (first | rw [← Ny467.out] at ho6 | (simp only [Int.reduceToNat] at ho6; rw [← Ny467.out] at ho6)); have n0_ := Aside0.mk (Kd.R_lower ho6 (below_size (be_ HB.out))); have n1_ := Aside0.mk (below_step (be_ HB.out) hb); clear HB; have HO469 := n0_; have HB := n1_; clear n0_ n1_; clear hb ho6; obtain ⟨Ao7, co7, eo7⟩ := Kd.R_slice HO469.out; subst eo7) | ((with_reducible refine gate_callee (f := 126) rfl ?_); refine goesL_ (some 7) rfl rfl Try.func126 (by kernel_rfl) rfl #[.slice Ao7 y467.length co7, .int .i64 a0] rfl al_ ?_; (with_reducible refine (spec_PutNum.calls k _ _ y467 a0 t470 _ ?side1 ?side2 A3.out).mono ?_); (case side1 => exact kc_ (Kd.R_reads' HO469.out).2.2); (case side2 => exact (Kd.R_reads' HO469.out).2.1); rintro e w8 ⟨v471, rfl, ho0, hb⟩; refine ⟨_, rfl, ?_⟩; have n0_ := Aside0.mk (Kd.R_elder' (kr_ HO469.out) (Kd.R_base ho0) hb); have n1_ := Aside0.mk (Kd.R_lower (Kd.R_new' ho0 (Kd.R_lt (kr_ HO469.out))) (below_size (be_ HB.out))); have n2_ := Aside0.mk (below_step (be_ HB.out) hb); clear HO469; clear HB; have HO469 := n0_; have HO472 := n1_; have HB := n2_; clear n0_ n1_ n2_; (try clear hb); (try clear hb2); (try clear hk); (try clear hi); (try clear ho0)) | ((with_reducible refine gate_builtin (b := .append) (xs := #[.tmp 7, _]) rfl ?_); at_builtin; refine Kd.R_append_str (w0 := w) w.heap.size rfl (.tmp 7) _ 22 9 5 rfl Try.underlying22 Try.underlying9 info5 v471 t470 a1 (fun k_ => some k_ ≠ (.slice Ao7 y467.length co7 : Value).ownBlock) rfl rfl ?aF ?aO ?aB ?aS ?aL ?_; (case aB => exact (be_ HB.out)); (case aF => exact (fun k_ hk => Kd.fresh' (Kd.R_lt (kr_ HO469.out)) k_ hk)); (case aO => exact (by (with_reducible repeat (first | apply Kd.R_alloc | apply Kd.R_drewN | apply Kd.R_drew)); exact Kd.R_mono HO472.out (fun _ hk => hk.2))); (case aS => exact (below_size (be_ HB.out))); (case aL => have := LMc4.out; omega); intro v474 w9 ho hb hg hat; rw [← Ny473.out] at ho; have n0_ := Aside0.mk (Kd.R_after (ok := (fun _ => True)) (kr_ HO469.out) hg hat); have n1_ := Aside0.mk (hb); have n2_ := Aside0.mk (ho); clear HO469; clear HB; clear HO472; have HO469 := n0_; have HB := n1_; have HO475 := n2_; clear n0_ n1_ n2_; clear ho hb hg hat))
  go_ret
  exact ⟨_, by first | rfl | (simp [errW_none, errW_some] <;> rfl) | (simp [*, errW_none, errW_some] <;> rfl), by (with_reducible repeat (first | apply Kd.R_alloc | apply Kd.R_drewN | apply Kd.R_drew)); exact Kd.R_mono HO475.out (fun _ hk => trivial), be_ HB.out⟩

/-! ###  spec_l4Root: function 71 -/
def spec_l4Root.f (k : Nat) (l0 : List (S26)) : Option (ByteArray) := (spec_l4Inner.f k l0).bind fun t476 => ((spec_l4Top.f k (l0.length : Int) t476).bind fun t477 => ((spec_Digest.f k t477).bind fun t480 => (some t480)))
set_option maxHeartbeats 8000000 in
set_option maxRecDepth 100000 in
theorem spec_l4Root.calls (k : Nat) (A0 : Option Addr) (c0 : Nat) (l0 : List (S26)) (r : ByteArray) (w : World) (hr0 : Kd.C k26 w A0 l0.length l0) (hc0 : l0.length ≤ c0) (h : spec_l4Root.f k l0 = some r) :
  Calls Try.prog 71 #[.slice A0 l0.length c0] w fun e w' => e = .returned (.string r) ∧ Below w.heap.size w w' := by
  have HR0 := Aside0.mk hr0
  have HC0 := Aside0.mk hc0
  clear hr0 hc0
  have HB := Aside0.mk (Below.refl w.heap.size w)
  have H : ((spec_l4Inner.f k l0).bind fun t476 => ((spec_l4Top.f k (l0.length : Int) t476).bind fun t477 => ((spec_Digest.f k t477).bind fun t480 => (some t480)))) = some r := h
  clear h
  replace H := Option.bind_eq_some_iff.mp H
  obtain ⟨t476, A20, H⟩ := H
  have A2 := Aside0.mk A20
  clear A20
  replace H := Option.bind_eq_some_iff.mp H
  obtain ⟨t477, A30, H⟩ := H
  have A3 := Aside0.mk A30
  clear A30
  replace H := Option.bind_eq_some_iff.mp H
  obtain ⟨t480, A40, H⟩ := H
  have A4 := Aside0.mk A40
  clear A40
  obtain rfl := Option.some.inj H
  go_enter Try.func71, Try.ntmps71
  go_wp2_with (first | ((with_reducible refine gate_callee (f := 93) rfl ?_); refine goesL_ (some 6) rfl rfl Try.func93 (by kernel_rfl) rfl #[.slice A0 l0.length c0] rfl al_ ?_; (with_reducible refine (spec_l4Inner.calls k _ _ l0 t476 _ ?side1 ?side2 A2.out).mono ?_); (case side1 => exact kc_ HR0.out); (case side2 => exact HC0.out); rintro e w5 ⟨rfl, hb⟩; refine ⟨_, rfl, ?_⟩; have n0_ := Aside0.mk (below_step (be_ HB.out) hb); clear HB; have HB := n0_; clear n0_; (try clear hb); (try clear hb2); (try clear hk); (try clear hi)) | ((with_reducible refine gate_callee (f := 104) rfl ?_); refine goesL_ (some 7) rfl rfl Try.func104 (by kernel_rfl) rfl #[.int .i64 (l0.length : Int), .string t476] rfl al_ ?_; (with_reducible refine (spec_l4Top.calls k (l0.length : Int) t476 t477 _ A3.out).mono ?_); rintro e w6 ⟨v478, rfl, ho0, hb⟩; refine ⟨_, rfl, ?_⟩; have n0_ := Aside0.mk (Kd.R_lower ho0 (below_size (be_ HB.out))); have n1_ := Aside0.mk (below_step (be_ HB.out) hb); clear HB; have HO479 := n0_; have HB := n1_; clear n0_ n1_; (try clear hb); (try clear hb2); (try clear hk); (try clear hi); (try clear ho0); obtain ⟨Ao7, co7, eo7⟩ := Kd.R_slice HO479.out; subst eo7) | ((with_reducible refine gate_callee (f := 53) rfl ?_); refine goesL_ (some 8) rfl rfl Try.func53 (by kernel_rfl) rfl #[.slice Ao7 t477.length co7] rfl al_ ?_; (with_reducible refine (spec_Digest.calls k _ _ t477 t480 _ ?side1 ?side2 A4.out).mono ?_); (case side1 => exact kc_ (Kd.R_reads' HO479.out).2.2); (case side2 => exact (Kd.R_reads' HO479.out).2.1); rintro e w8 ⟨rfl, hb⟩; refine ⟨_, rfl, ?_⟩; have n0_ := Aside0.mk (Kd.R_below (kr_ HO479.out) hb); have n1_ := Aside0.mk (below_step (be_ HB.out) hb); clear HO479; clear HB; have HO479 := n0_; have HB := n1_; clear n0_ n1_; (try clear hb); (try clear hb2); (try clear hk); (try clear hi)))
  go_ret
  exact ⟨by first | rfl | (simp [errW_none, errW_some] <;> rfl) | (simp [*, errW_none, errW_some] <;> rfl), be_ HB.out⟩

/-! ###  spec_RootOf: function 29 -/
def spec_RootOf.f (k : Nat) (l0 : List (S26)) : Option (ByteArray) := if (l0.length : Int) > 60 then (some (⟨#[]⟩ : ByteArray)) else ((spec_l4Root.f k l0).bind fun t481 => (some t481))
set_option maxHeartbeats 8000000 in
set_option maxRecDepth 100000 in
theorem spec_RootOf.calls (k : Nat) (A0 : Option Addr) (c0 : Nat) (l0 : List (S26)) (r : ByteArray) (w : World) (hr0 : Kd.C k26 w A0 l0.length l0) (hc0 : l0.length ≤ c0) (h : spec_RootOf.f k l0 = some r) :
  Calls Try.prog 29 #[.slice A0 l0.length c0] w fun e w' => e = .returned (.string r) ∧ Below w.heap.size w w' := by
  have HR0 := Aside0.mk hr0
  have HC0 := Aside0.mk hc0
  clear hr0 hc0
  have HB := Aside0.mk (Below.refl w.heap.size w)
  have H : (if (l0.length : Int) > 60 then (some (⟨#[]⟩ : ByteArray)) else ((spec_l4Root.f k l0).bind fun t481 => (some t481))) = some r := h
  clear h
  by_cases c2 : (l0.length : Int) > 60
  · rw [if_pos c2] at H
    have c2b0 : decide (60 < (l0.length : Int)) = true := decide_eq_true c2
    have c2b1 : decide (60 < l0.length) = true := decide_eq_true (by omega)
    clear c2
    obtain rfl := Option.some.inj H
    go_enter Try.func29, Try.ntmps29
    go_wp2
    go_ret
    exact ⟨by first | rfl | (simp [errW_none, errW_some] <;> rfl) | (simp [*, errW_none, errW_some] <;> rfl), be_ HB.out⟩
  · rw [if_neg c2] at H
    have c2b0 : decide (60 < (l0.length : Int)) = false := decide_eq_false c2
    have c2b1 : decide (60 < l0.length) = false := decide_eq_false (by omega)
    clear c2
    replace H := Option.bind_eq_some_iff.mp H
    obtain ⟨t481, A30, H⟩ := H
    have A3 := Aside0.mk A30
    clear A30
    obtain rfl := Option.some.inj H
    go_enter Try.func29, Try.ntmps29
    go_wp2_with (first | ((with_reducible refine gate_callee (f := 71) rfl ?_); refine goesL_ (some 7) rfl rfl Try.func71 (by kernel_rfl) rfl #[.slice A0 l0.length c0] rfl al_ ?_; (with_reducible refine (spec_l4Root.calls k _ _ l0 t481 _ ?side1 ?side2 A3.out).mono ?_); (case side1 => exact kc_ HR0.out); (case side2 => exact HC0.out); rintro e w4 ⟨rfl, hb⟩; refine ⟨_, rfl, ?_⟩; have n0_ := Aside0.mk (below_step (be_ HB.out) hb); clear HB; have HB := n0_; clear n0_; (try clear hb); (try clear hb2); (try clear hk); (try clear hi)))
    go_ret
    exact ⟨by first | rfl | (simp [errW_none, errW_some] <;> rfl) | (simp [*, errW_none, errW_some] <;> rfl), be_ HB.out⟩

end Go.Proofs.Ytgaalomhipfgjaa.P
