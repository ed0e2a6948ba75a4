import Derived.Test.YtgmfhchhbidlnaaPx0
import Derived.Test.YtgmfhchhbidlnaaStr
namespace Go.Proofs.Ytgmfhchhbidlnaa.P
open Go.RowKit Go.Proofs.YtgmfhchhbidlnaaW.PrintWords Go.Proofs.YtgmfhchhbidlnaaW.PrintLast Go.Proofs.YtgmfhchhbidlnaaW.PrintMore
attribute [local go_sem] max2_int min2_int max_two min_two max_three min_three max_four min_four
set_option linter.unusedVariables false
set_option maxHeartbeats 8000000
set_option maxRecDepth 100000
set_option linter.unusedSimpArgs false
theorem eqA45 (d : Nat) (w : World) (x0 y0 : ByteArray) (x1 y1 : ByteArray) :
 (Op.equalIn (d + 2) 45 (.agg #[.string x0, .string x1]) (.agg #[.string y0, .string y1])).run Try.prog w = .ok (x0.toList == y0.toList && (x1.toList == y1.toList)) w := by
 refine eqA_of Try.underlying45 (by kernel_rfl) ?_
 refine eqf_cons (by rfl) (by go_simp; rfl) (by go_simp; rfl) (by go_simp) ?_
 exact eqf_last (by rfl) (by go_simp; rfl) (by go_simp; rfl) (by go_simp)
section
def laws_big.f (l0 : List Int) : Option (Bool) := some (decide ((l0.length : Int) > 1048576))
theorem laws_big.calls (A0 : Option Addr) (c0 : Nat) (l0 : List Int) (r : Bool) (w : World) (aA : Kd.C (Kd.int .u8) w A0 l0.length l0) (aB : l0.length ≤ c0) (h : laws_big.f l0 = some r) :
 Calls Try.prog 4 #[.slice A0 l0.length c0] w fun e w' => e = .returned (.bool r) ∧ Drawn0 w w' := by
 have aC := Aside0.mk aA
 have aD := Aside0.mk aB
 clear aA aB
 have H := h
 clear h
 unfold laws_big.f at H
 obtain rfl := Option.some.inj H
 go_enter Try.func4, Try.ntmps4
 go_wp2
 go_ret
 exact ⟨rs_, by repeat (first | exact Drawn0.refl _ | apply Drawn0.step)⟩
def IsS61 (w0 W : World) (g : Nat) (f0 : List Int) (f1 : Int) (f2 : Int) : Prop := ∃ A0 c0, W.heap[g]? = some (.cells #[.slice A0 f0.length c0, .int .i64 f1, .int .i64 f2] 61 (0, 0)) ∧ w0.heap.size ≤ g ∧ Kd.C (Kd.int .u8) w0 A0 f0.length f0
theorem IsS61.grown {w0 W : World} {g : Nat} {f0 : List Int} {f1 : Int} {f2 : Int} {W1 : World} {row : Option Nat} (h : IsS61 w0 W g f0 f1 f2) (hw : W.grownBy W1 row) (hne : some g ≠ row) : IsS61 w0 W1 g f0 f1 f2 := by
 obtain ⟨A0, c0, hb, hg, aA⟩ := h
 exact ⟨A0, c0, blk_grown hb hw hne, hg, aA⟩
theorem IsS61.below {w0 W : World} {g : Nat} {f0 : List Int} {f1 : Int} {f2 : Int} {W1 : World} (h : IsS61 w0 W g f0 f1 f2) (hw : Below W.heap.size W W1) : IsS61 w0 W1 g f0 f1 f2 := h.grown (grown_of_below hw none) (by simp)
theorem IsS61.drewN {w0 W : World} {g : Nat} {f0 : List Int} {f1 : Int} {f2 : Int} (h : IsS61 w0 W g f0 f1 f2) (m : Nat) : IsS61 w0 (W.drewN m) g f0 f1 f2 := h
theorem IsS61.apart {w0 W : World} {g : Nat} {f0 : List Int} {f1 : Int} {f2 : Int} {α : Type} {d : Kd α} {e : Nat} {base : Nat} {ok : Nat → Prop} {v : Value} {xs : List α} (h : IsS61 w0 W g f0 f1 f2) (ho : d.R e W base ok v xs) (ht : ∀ q, q ∈ e :: d.E → q ≠ 61) : d.R e W base (fun k => ok k ∧ k ≠ g) v xs := by
 obtain ⟨A0, c0, hb, hg, aA⟩ := h
 exact Kd.R_types ho hb ht
theorem IsS61.own_ne {w0 W : World} {g : Nat} {f0 : List Int} {f1 : Int} {f2 : Int} {α : Type} {d : Kd α} {e : Nat} {base : Nat} {ok : Nat → Prop} {v : Value} {xs : List α} (h : IsS61 w0 W g f0 f1 f2) (ho : d.R e W base ok v xs) (ht : e ≠ 61) : some g ≠ v.ownBlock := by
 obtain ⟨A0, c0, hb, hg, aA⟩ := h
 exact Kd.R_ne ho hb ht
theorem IsS61.lt {w0 W : World} {g : Nat} {f0 : List Int} {f1 : Int} {f2 : Int} (h : IsS61 w0 W g f0 f1 f2) : g < W.heap.size := by
 obtain ⟨A0, c0, hb, hg, aA⟩ := h
 exact blk_lt hb
theorem IsS61.ge {w0 W : World} {g : Nat} {f0 : List Int} {f1 : Int} {f2 : Int} (h : IsS61 w0 W g f0 f1 f2) : w0.heap.size ≤ g := by
 obtain ⟨A0, c0, hb, hg, aA⟩ := h
 exact hg
theorem IsS61.ne_blk {w0 W : World} {g : Nat} {f0 : List Int} {f1 : Int} {f2 : Int} {a : Nat} {cs : Array Value} {t : TypeId} {fr : Nat × Nat} (h : IsS61 w0 W g f0 f1 f2) (aA : W.heap[a]? = some (.cells cs t fr)) (ht : t ≠ 61) : g ≠ a := by
 obtain ⟨A0, c0, hb, hg, aB⟩ := h
 rintro rfl
 rw [hb] at aA
 injection aA with aA
 injection aA with _ ht2
 exact ht ht2.symm
theorem IsS61.far {w0 W : World} {g : Nat} {f0 : List Int} {f1 : Int} {f2 : Int} {p : Addr} (h : IsS61 w0 W g f0 f1 f2) (hne : g ≠ p.block) (u : Value) : IsS61 w0 (W.setCell p u) g f0 f1 f2 := by
 obtain ⟨A0, c0, hb, hg, aA⟩ := h
 exact ⟨A0, c0, blk_far hb hne u, hg, aA⟩
theorem cellS61_0 {W : World} {g : Nat} {A0 : Option Addr} {c0 : Nat} {f0 : List Int} {f1 : Int} {f2 : Int} (h : W.heap[g]? = some (.cells #[.slice A0 f0.length c0, .int .i64 f1, .int .i64 f2] 61 (0, 0))) : W.cell? ⟨g, 0, none⟩ = some (.slice A0 f0.length c0) := (blk_cell h 0).trans rfl
theorem cellS61_1 {W : World} {g : Nat} {A0 : Option Addr} {c0 : Nat} {f0 : List Int} {f1 : Int} {f2 : Int} (h : W.heap[g]? = some (.cells #[.slice A0 f0.length c0, .int .i64 f1, .int .i64 f2] 61 (0, 0))) : W.cell? ⟨g, 1, none⟩ = some (.int .i64 f1) := (blk_cell h 1).trans rfl
theorem IsS61.set_1 {w0 W : World} {g : Nat} {f0 : List Int} {f1 : Int} {f2 : Int} (h : IsS61 w0 W g f0 f1 f2) (x : Int) : IsS61 w0 (W.setCell ⟨g, 1, none⟩ (.int .i64 x)) g f0 x f2 := by
 obtain ⟨A0, c0, hb, hg, aA⟩ := h
 exact ⟨A0, c0, by simpa using blk_set hb 1 (.int .i64 x), hg, aA⟩
theorem cellS61_2 {W : World} {g : Nat} {A0 : Option Addr} {c0 : Nat} {f0 : List Int} {f1 : Int} {f2 : Int} (h : W.heap[g]? = some (.cells #[.slice A0 f0.length c0, .int .i64 f1, .int .i64 f2] 61 (0, 0))) : W.cell? ⟨g, 2, none⟩ = some (.int .i64 f2) := (blk_cell h 2).trans rfl
theorem IsS61.set_2 {w0 W : World} {g : Nat} {f0 : List Int} {f1 : Int} {f2 : Int} (h : IsS61 w0 W g f0 f1 f2) (x : Int) : IsS61 w0 (W.setCell ⟨g, 2, none⟩ (.int .i64 x)) g f0 f1 x := by
 obtain ⟨A0, c0, hb, hg, aA⟩ := h
 exact ⟨A0, c0, by simpa using blk_set hb 2 (.int .i64 x), hg, aA⟩
def spec_l1New.l0 : Nat → List Int → Int → Int → Option (List Int × Int × Int)
 | 0, _, _, _ => none
 | k + 1, x0, x3, x4 => if x4 < (x0.length : Int) then (if x4 < 4000 then (if 0 ≤ x4 then (spec_l1New.l0 k x0 (Go.bits .and .i64 (wrap64 ((wrap64 ((wrap64 (x3 * 137)) + (wrap64 (rd x0 x4)))) + 11)) 1073741823) (wrap64 (x4 + 1))) else (none)) else (some (x0, 0, x3))) else (some (x0, 0, x3))
def spec_l1New.f (k : Nat) (l0 : List Int) : Option (List Int × Int × Int) := spec_l1New.l0 k l0 (wrap64 (381381 + (l0.length : Int))) 0
theorem spec_l1New.calls (k : Nat) (A0 : Option Addr) (c0 : Nat) (l0 : List Int) (r1 : List Int) (r2 : Int) (r3 : Int) (w0 w : World) (hB : Below w0.heap.size w0 w) (aR : Kd.C (Kd.int .u8) w0 A0 l0.length l0) (aS : l0.length ≤ c0) (h : spec_l1New.f k l0 = some (r1, r2, r3)) :
 Calls Try.prog 14 #[.slice A0 l0.length c0] w fun e w' => ∃ g_ : Nat, e = .returned (.pointer (some ⟨g_, 0, none⟩)) ∧ IsS61 w0 w' g_ r1 r2 r3 ∧ Below w0.heap.size w0 w' ∧ Below w.heap.size w w' := by
 have aW := Try.underlying61
 have aQ := Aside0.mk aR
 have aY := Aside0.mk aS
 clear aR aS
 have HBW := q_ (Below.refl w.heap.size w)
 have aU := Aside0.mk hB.size
 have HB := Aside0.mk hB
 clear hB
 have H := h
 clear h
 unfold spec_l1New.f at H
 have H' := Aside0.mk H
 clear H
 go_enter Try.func14, Try.ntmps14
 go_wp2
 go_loopg [3, 4] k (fun kq v3 v4 w' => ∃ (aB : Int) (aA : Int), v3 = .int .i64 aB ∧ v4 = .int .i64 aA ∧ Aside0 (spec_l1New.l0 kq l0 aB aA = some (r1, r2, r3)) ∧ Aside0 (kq ≤ k) ∧ Aside0 (Below w0.heap.size w0 w') ∧ Aside0 (Below w.heap.size w w'))
 case atStart => exact ⟨(wrap64 (381381 + (l0.length : Int))), (0), rs_, rs_, H', ⟨Nat.le_refl _⟩, ⟨be_ HB.out⟩, ⟨by repeat (first | (with_reducible first | exact HBW.out | apply below_alloc | apply pw_below_drewN | apply below_drew1) | exact HBW.out)⟩⟩
 case round =>
  clear H'
  obtain ⟨aB, aA, rfl, rfl, HA, aV, HB, HBW⟩ := hrel
  cases gk with
  | zero => exact absurd HA.out (by simp [spec_l1New.l0])
  | succ k1 =>
   have H := HA.out
   clear HA
   simp only [spec_l1New.l0] at H
   by_cases c2 : aA < (l0.length : Int)
   ·
    rw [if_pos c2] at H
    have aP := decide_eq_true c2
    clear c2
    by_cases c3 : aA < 4000
    ·
     rw [if_pos c3] at H
     have aO := decide_eq_true c3
     clear c3
     obtain ⟨aX, H⟩ := id_ H
     have H' := Aside0.mk H
     clear H
     have aI : 0 ≤ (aA : Int) := od_
     have aH : aA < (l0.length : Int) := od_
     obtain ⟨aT, aN, aC⟩ := Kd.at_int aQ.out aA aI aH
     cases aN
     replace aC := pw_cell_below HB.out aC
     replace aI := eq_true aI
     replace aH := eq_true aH
     go_wp2
     go_roundg k1
     case measure => have := aV.out; omega
     case rel => exact ⟨(Go.bits .and .i64 (wrap64 ((wrap64 ((wrap64 (aB * 137)) + (wrap64 (rd l0 aA)))) + 11)) 1073741823), (wrap64 (aA + 1)), rs_, rs_, H', ⟨by have := aV.out; omega⟩, ⟨be_ HB.out⟩, ⟨by repeat (first | (with_reducible first | exact HBW.out | apply below_alloc | apply pw_below_drewN | apply below_drew1) | exact HBW.out)⟩⟩
    rw [if_neg c3] at H
    have aO := decide_eq_false c3
    clear c3
    simp only [Option.some.injEq, Prod.mk.injEq] at H
    obtain ⟨rfl, rfl, rfl⟩ := H
    go_wp2_with (first | ((with_reducible refine gate_dst (N := 31) rfl ?_); refine box_event rfl (N := 31) rfl (cs := #[.slice A0 l0.length c0, .int .i64 0, .int .i64 aB]) (t := 61) hr_ ?_; intro aE hg w5 hbox hb; replace HB := q_ (below_step (be_ HB.out) hb); have aM := q_ (hbox); have aK := ge_ hg (by repeat (first | (with_reducible first | exact HBW.out | apply below_alloc | apply pw_below_drewN | apply below_drew1) | exact HBW.out)); have aG := q_ ((Nat.le_trans aU.out (by rw [hg]; exact (below_size (by repeat (first | (with_reducible first | exact HBW.out | apply below_alloc | apply pw_below_drewN | apply below_drew1) | exact HBW.out))) : w.heap.size ≤ aE) : w0.heap.size ≤ aE)); replace HBW := q_ (below_step HBW.out hb); clear hb hbox hg))
    go_ret
    exact ⟨_, rfl, (show IsS61 w0 _ aE l0 0 aB from ⟨_, _, bk_ aM.out, aG.out, aQ.out⟩), bs_ HB.out aG.out, by repeat (first | (with_reducible first | exact HBW.out | apply below_alloc | apply pw_below_drewN | apply below_drew1 | refine below_set ?_ aK.out) | exact HBW.out)⟩
   ·
    rw [if_neg c2] at H
    have aP := decide_eq_false c2
    clear c2
    simp only [Option.some.injEq, Prod.mk.injEq] at H
    obtain ⟨rfl, rfl, rfl⟩ := H
    go_wp2_with (first | ((with_reducible refine gate_dst (N := 31) rfl ?_); refine box_event rfl (N := 31) rfl (cs := #[.slice A0 l0.length c0, .int .i64 0, .int .i64 aB]) (t := 61) hr_ ?_; intro aD hg w6 hbox hb; replace HB := q_ (below_step (be_ HB.out) hb); have aL := q_ (hbox); have aJ := ge_ hg (by repeat (first | (with_reducible first | exact HBW.out | apply below_alloc | apply pw_below_drewN | apply below_drew1) | exact HBW.out)); have aF := q_ ((Nat.le_trans aU.out (by rw [hg]; exact (below_size (by repeat (first | (with_reducible first | exact HBW.out | apply below_alloc | apply pw_below_drewN | apply below_drew1) | exact HBW.out))) : w.heap.size ≤ aD) : w0.heap.size ≤ aD)); replace HBW := q_ (below_step HBW.out hb); clear hb hbox hg))
    go_ret
    exact ⟨_, rfl, (show IsS61 w0 _ aD l0 0 aB from ⟨_, _, bk_ aL.out, aF.out, aQ.out⟩), bs_ HB.out aF.out, by repeat (first | (with_reducible first | exact HBW.out | apply below_alloc | apply pw_below_drewN | apply below_drew1 | refine below_set ?_ aJ.out) | exact HBW.out)⟩
def spec_l1Byte.f (aC : List Int) (aB : Int) (aA : Int) : Option (Int × Int × Int) := if aB < (aC.length : Int) then (if 0 ≤ aB then (some (Go.bits .and .i64 (wrap64 ((Go.bits .and .i64 (Go.bits .xor .i64 ((wrap64 ((wrap64 (aA * 6364136223846793005)) + 1442695040888963407)) / 8589934592) ((wrap64 ((wrap64 (aA * 6364136223846793005)) + 1442695040888963407)) / 140737488355328)) 255) + (wrap64 (rd aC aB)))) 255, wrap64 (aB + 1), wrap64 ((wrap64 (aA * 6364136223846793005)) + 1442695040888963407))) else (none)) else (some (Go.bits .and .i64 (Go.bits .xor .i64 ((wrap64 ((wrap64 (aA * 6364136223846793005)) + 1442695040888963407)) / 8589934592) ((wrap64 ((wrap64 (aA * 6364136223846793005)) + 1442695040888963407)) / 140737488355328)) 255, aB, wrap64 ((wrap64 (aA * 6364136223846793005)) + 1442695040888963407)))
theorem spec_l1Byte.calls (g : Nat) (aF : List Int) (aC : Int) (aG : Int) (r1 : Int) (r2 : Int) (r3 : Int) (w0 w : World) (hI : IsS61 w0 w g aF aC aG) (hB : Below w0.heap.size w0 w) (h : spec_l1Byte.f aF aC aG = some (r1, r2, r3)) :
 Calls Try.prog 61 #[.pointer (some ⟨g, 0, none⟩)] w fun e w' => e = .returned (.int .i64 r1) ∧ IsS61 w0 w' g aF r2 r3 ∧ Below w0.heap.size w0 w' ∧ KeepBut w w' g none := by
 have aH := Aside0.mk hI
 have HK := q_ (KeepBut.refl w g none)
 have HL := Aside0.mk hB.size
 clear hI
 have bH := Aside0.mk hB.size
 have HB := Aside0.mk hB
 clear hB
 have H := h
 clear h
 unfold spec_l1Byte.f at H
 by_cases c2 : aC < (aF.length : Int)
 ·
  rw [if_pos c2] at H
  have bC := decide_eq_true c2
  clear c2
  obtain ⟨bG, H⟩ := id_ H
  simp only [Option.some.injEq, Prod.mk.injEq] at H
  obtain ⟨rfl, rfl, rfl⟩ := H
  obtain ⟨bF, bB, aE, aO, aK⟩ := aH.out
  have aY := cellS61_0 aE
  have aX := cellS61_1 aE
  have aW := cellS61_2 aE
  have aS := blk_frozen aE 1
  have aR := blk_frozen aE 2
  clear aE aO
  have aJ : 0 ≤ (aC : Int) := od_
  have aI : aC < (aF.length : Int) := od_
  obtain ⟨aL, aZ, aA⟩ := Kd.at_int aK aC aJ aI
  cases aZ
  have aB : aL.block ≠ g := Nat.ne_of_lt (Nat.lt_of_lt_of_le (by have := World.block_lt_of_cell? _ _ aA; first | rwa [add_block] at this | exact this) (IsS61.ge aH.out))
  replace aA := pw_cell_below HB.out aA
  replace aA := (cell_far (p := ⟨g, 2, none⟩) (by first | (rw [add_block]; exact aB) | (show (Addr.add _ _).block ≠ _; rw [add_block]; exact aB) | exact aB) (.int .i64 (wrap64 ((wrap64 (aG * 6364136223846793005)) + 1442695040888963407)))).trans aA
  (try have aM := fun (n_ : Nat) => (show (((w.drewN n_).setCell ⟨g, 2, none⟩ (.int .i64 (wrap64 ((wrap64 (aG * 6364136223846793005)) + 1442695040888963407))))).cell? _ = some _ from aA))
  clear aB
  replace aJ := eq_true aJ
  replace aI := eq_true aI
  go_enter Try.func61, Try.ntmps61
  go_wp2
  repeat (go_quiet (fail); try go_wp2)
  go_ret
  exact ⟨rf_, by repeat (first | (with_reducible first | exact aH.out | apply IsS61.alloc | apply IsS61.drewN | apply IsS61.drew | apply IsS61.set_1 | apply IsS61.set_2) | exact aH.out), bs_ HB.out (IsS61.ge aH.out), by repeat (first | (with_reducible first | exact HK.out | apply KeepBut.set_ | apply keep_drewN | apply keep_drew | apply keep_alloc) | exact HK.out)⟩
 ·
  rw [if_neg c2] at H
  have bC := decide_eq_false c2
  clear c2
  simp only [Option.some.injEq, Prod.mk.injEq] at H
  obtain ⟨rfl, rfl, rfl⟩ := H
  obtain ⟨bE, bA, aD, aN, bD⟩ := aH.out
  have aV := cellS61_0 aD
  have aU := cellS61_1 aD
  have aT := cellS61_2 aD
  have aQ := blk_frozen aD 1
  have aP := blk_frozen aD 2
  clear aD aN
  go_enter Try.func61, Try.ntmps61
  go_wp2
  repeat (go_quiet (fail); try go_wp2)
  go_ret
  exact ⟨rf_, by repeat (first | (with_reducible first | exact aH.out | apply IsS61.alloc | apply IsS61.drewN | apply IsS61.drew | apply IsS61.set_1 | apply IsS61.set_2) | exact aH.out), bs_ HB.out (IsS61.ge aH.out), by repeat (first | (with_reducible first | exact HK.out | apply KeepBut.set_ | apply keep_drewN | apply keep_drew | apply keep_alloc) | exact HK.out)⟩
def spec_l1Below.f (aE : List Int) (aG : Int) (aF : Int) (a1 : Int) : Option (Int × Int × Int) := if a1 ≤ 0 then (some (0, aG, aF)) else (if a1 ≤ 256 then ((spec_l1Byte.f aE aG aF).bind fun aD => (if a1 = 0 then (none) else (some (Int.tmod aD.1 a1, aD.2.1, aD.2.2)))) else ((spec_l1Byte.f aE aG aF).bind fun aC => ((spec_l1Byte.f aE aC.2.1 aC.2.2).bind fun aB => ((spec_l1Byte.f aE aB.2.1 aB.2.2).bind fun aA => (if a1 = 0 then (none) else (some (Int.tmod (wrap64 ((wrap64 ((wrap64 (aC.1 * 65536)) + (wrap64 (aB.1 * 256)))) + aA.1)) a1, aA.2.1, aA.2.2)))))))
theorem spec_l1Below.calls (g : Nat) (aB : List Int) (aD : Int) (aC : Int) (a1 : Int) (r1 : Int) (r2 : Int) (r3 : Int) (w0 w : World) (hI : IsS61 w0 w g aB aD aC) (hB : Below w0.heap.size w0 w) (h : spec_l1Below.f aB aD aC a1 = some (r1, r2, r3)) :
 Calls Try.prog 36 #[.pointer (some ⟨g, 0, none⟩), .int .i64 a1] w fun e w' => e = .returned (.int .i64 r1) ∧ IsS61 w0 w' g aB r2 r3 ∧ Below w0.heap.size w0 w' ∧ KeepBut w w' g none := by
 have aA := Aside0.mk hI
 have HK := q_ (KeepBut.refl w g none)
 have HL := Aside0.mk hB.size
 clear hI
 have bB := Aside0.mk hB.size
 have HB := Aside0.mk hB
 clear hB
 have H := h
 clear h
 unfold spec_l1Below.f at H
 by_cases c3 : a1 ≤ 0
 ·
  rw [if_pos c3] at H
  have aS := decide_eq_true c3
  clear c3
  simp only [Option.some.injEq, Prod.mk.injEq] at H
  obtain ⟨rfl, rfl, rfl⟩ := H
  go_enter Try.func36, Try.ntmps36
  go_wp2
  go_ret
  exact ⟨rf_, by repeat (first | (with_reducible first | exact aA.out | apply IsS61.alloc | apply IsS61.drewN | apply IsS61.drew | apply IsS61.set_1 | apply IsS61.set_2) | exact aA.out), bs_ HB.out (IsS61.ge aA.out), by repeat (first | (with_reducible first | exact HK.out | apply KeepBut.set_ | apply keep_drewN | apply keep_drew | apply keep_alloc) | exact HK.out)⟩
 ·
  rw [if_neg c3] at H
  have aS := decide_eq_false c3
  clear c3
  by_cases c4 : a1 ≤ 256
  ·
   rw [if_pos c4] at H
   have aR := decide_eq_true c4
   clear c4
   obtain ⟨⟨aQ, aP, aO⟩, A5, H⟩ := bo_ H; try dsimp only at H
   by_cases c6 : a1 = 0
   · rw [if_pos c6] at H
     exact absurd H (by simp)
   rw [if_neg c6] at H
   have aW := beq_eq_false_iff_ne.mpr c6
   have aV := bne_iff_ne.mpr c6
   simp only [Option.some.injEq, Prod.mk.injEq] at H
   obtain ⟨rfl, rfl, rfl⟩ := H
   go_enter Try.func36, Try.ntmps36
   go_wp2_with (first | ((with_reducible refine gate_callee (f := 61) rfl ?_); refine gl_ (some 13) Try.func61 #[.pointer (some ⟨g, 0, none⟩)] rfl al_ ?_; (with_reducible refine (spec_l1Byte.calls g aB aD aC aQ aP aO w0 _ ?side1 ?side2 A5.out).mono ?_); (case side1 => repeat (first | (with_reducible first | exact aA.out | apply IsS61.alloc | apply IsS61.drewN | apply IsS61.drew | apply IsS61.set_1 | apply IsS61.set_2) | exact aA.out)); (case side2 => repeat (first | (with_reducible first | exact HB.out | apply below_alloc | apply pw_below_drewN | apply below_drew1 | refine below_set ?_ (IsS61.ge aA.out)) | exact HB.out)); rintro e w7 ⟨rfl, hi, hb, hk⟩; refine ⟨_, rfl, ?_⟩; replace HK := q_ (KeepBut.trans (by repeat (first | (with_reducible first | exact HK.out | apply KeepBut.set_ | apply keep_drewN | apply keep_drew | apply keep_alloc) | exact HK.out)) hk (.inl rfl)); replace HB := q_ (hb); replace aA := q_ (hi); (try clear hb); (try clear hk); (try clear hi)))
   go_ret
   exact ⟨rf_, by repeat (first | (with_reducible first | exact aA.out | apply IsS61.alloc | apply IsS61.drewN | apply IsS61.drew | apply IsS61.set_1 | apply IsS61.set_2) | exact aA.out), bs_ HB.out (IsS61.ge aA.out), by repeat (first | (with_reducible first | exact HK.out | apply KeepBut.set_ | apply keep_drewN | apply keep_drew | apply keep_alloc) | exact HK.out)⟩
  ·
   rw [if_neg c4] at H
   have aR := decide_eq_false c4
   clear c4
   obtain ⟨⟨aN, aH, aG⟩, A8, H⟩ := bo_ H; try dsimp only at H
   obtain ⟨⟨aM, aF, aE⟩, A9, H⟩ := bo_ H; try dsimp only at H
   obtain ⟨⟨aL, aK, aJ⟩, aX, H⟩ := bo_ H; try dsimp only at H
   by_cases aI : a1 = 0
   · rw [if_pos aI] at H
     exact absurd H (by simp)
   ·
    rw [if_neg aI] at H
    have aU := beq_eq_false_iff_ne.mpr aI
    have aT := bne_iff_ne.mpr aI
    simp only [Option.some.injEq, Prod.mk.injEq] at H
    obtain ⟨rfl, rfl, rfl⟩ := H
    go_enter Try.func36, Try.ntmps36
    go_wp2_with (first | ((with_reducible refine gate_callee (f := 61) rfl ?_); refine gl_ (some 17) Try.func61 #[.pointer (some ⟨g, 0, none⟩)] rfl al_ ?_; (with_reducible refine (spec_l1Byte.calls g aB aD aC aN aH aG w0 _ ?side1 ?side2 A8.out).mono ?_); (case side1 => repeat (first | (with_reducible first | exact aA.out | apply IsS61.alloc | apply IsS61.drewN | apply IsS61.drew | apply IsS61.set_1 | apply IsS61.set_2) | exact aA.out)); (case side2 => repeat (first | (with_reducible first | exact HB.out | apply below_alloc | apply pw_below_drewN | apply below_drew1 | refine below_set ?_ (IsS61.ge aA.out)) | exact HB.out)); rintro e bA ⟨rfl, hi, hb, hk⟩; refine ⟨_, rfl, ?_⟩; replace HK := q_ (KeepBut.trans (by repeat (first | (with_reducible first | exact HK.out | apply KeepBut.set_ | apply keep_drewN | apply keep_drew | apply keep_alloc) | exact HK.out)) hk (.inl rfl)); replace HB := q_ (hb); replace aA := q_ (hi); (try clear hb); (try clear hk); (try clear hi)) | ((with_reducible refine gate_callee (f := 61) rfl ?_); refine gl_ (some 19) Try.func61 #[.pointer (some ⟨g, 0, none⟩)] rfl al_ ?_; (with_reducible refine (spec_l1Byte.calls g aB aH aG aM aF aE w0 _ ?side1 ?side2 A9.out).mono ?_); (case side1 => repeat (first | (with_reducible first | exact aA.out | apply IsS61.alloc | apply IsS61.drewN | apply IsS61.drew | apply IsS61.set_1 | apply IsS61.set_2) | exact aA.out)); (case side2 => repeat (first | (with_reducible first | exact HB.out | apply below_alloc | apply pw_below_drewN | apply below_drew1 | refine below_set ?_ (IsS61.ge aA.out)) | exact HB.out)); rintro e aZ ⟨rfl, hi, hb, hk⟩; refine ⟨_, rfl, ?_⟩; replace HK := q_ (KeepBut.trans (by repeat (first | (with_reducible first | exact HK.out | apply KeepBut.set_ | apply keep_drewN | apply keep_drew | apply keep_alloc) | exact HK.out)) hk (.inl rfl)); replace HB := q_ (hb); replace aA := q_ (hi); (try clear hb); (try clear hk); (try clear hi)) | ((with_reducible refine gate_callee (f := 61) rfl ?_); refine gl_ (some 21) Try.func61 #[.pointer (some ⟨g, 0, none⟩)] rfl al_ ?_; (with_reducible refine (spec_l1Byte.calls g aB aF aE aL aK aJ w0 _ ?side1 ?side2 aX.out).mono ?_); (case side1 => repeat (first | (with_reducible first | exact aA.out | apply IsS61.alloc | apply IsS61.drewN | apply IsS61.drew | apply IsS61.set_1 | apply IsS61.set_2) | exact aA.out)); (case side2 => repeat (first | (with_reducible first | exact HB.out | apply below_alloc | apply pw_below_drewN | apply below_drew1 | refine below_set ?_ (IsS61.ge aA.out)) | exact HB.out)); rintro e aY ⟨rfl, hi, hb, hk⟩; refine ⟨_, rfl, ?_⟩; replace HK := q_ (KeepBut.trans (by repeat (first | (with_reducible first | exact HK.out | apply KeepBut.set_ | apply keep_drewN | apply keep_drew | apply keep_alloc) | exact HK.out)) hk (.inl rfl)); replace HB := q_ (hb); replace aA := q_ (hi); (try clear hb); (try clear hk); (try clear hi)))
    go_ret
    exact ⟨rf_, by repeat (first | (with_reducible first | exact aA.out | apply IsS61.alloc | apply IsS61.drewN | apply IsS61.drew | apply IsS61.set_1 | apply IsS61.set_2) | exact aA.out), bs_ HB.out (IsS61.ge aA.out), by repeat (first | (with_reducible first | exact HK.out | apply KeepBut.set_ | apply keep_drewN | apply keep_drew | apply keep_alloc) | exact HK.out)⟩
mutual
def spec_PutKey.l0 : Nat → List (S45) → ByteArray → ByteArray → List (S45) → Int → Option ((List (S45)))
 | 0, _, _, _, _, _ => none
 | k + 1, x0, x1, x2, x7, x8 => if x8 < (x7.length : Int) then (if 0 ≤ x8 then (if ((rd_T45 x7 x8).f0).toList = x1.toList then (some (x7.set (x8 : Int).toNat (⟨(rd_T45 x7 x8).f0, x2⟩ : S45))) else (spec_PutKey.l0 k x0 x1 x2 x7 (wrap64 (x8 + 1)))) else (none)) else (spec_PutKey.l1 k x0 x1 x2 0)
def spec_PutKey.l1 : Nat → List (S45) → ByteArray → ByteArray → Int → Option ((List (S45)))
 | 0, _, _, _, _ => none
 | k + 1, x0, x1, x2, x9 => if x9 < (x0.length : Int) then (if 0 ≤ x9 then (if ((Op.bytesLess x1.toList (((rd_T45 x0 x9).f0).toList)) = true) then ((some (([] : List (S45)) : List (S45))).bind fun aJ => (if x9 ≤ (x0.length : Int) then ((some (x0.take (x9 : Int).toNat : List (S45))).bind fun aI => (if aJ.length + aI.length < 4398046511104 then ((some (aJ ++ aI : List (S45))).bind fun aH => (if aH.length < 4398046511104 then ((some (aH ++ [(⟨x1, x2⟩ : S45)] : List (S45))).bind fun aG => ((some (x0.drop (x9 : Int).toNat : List (S45))).bind fun aF => (if aG.length + aF.length < 4398046511104 then (some (aG ++ aF)) else (none)))) else (none))) else (none))) else (none))) else (spec_PutKey.l1 k x0 x1 x2 (wrap64 (x9 + 1)))) else (none)) else ((some (([] : List (S45)) : List (S45))).bind fun aE => (if 0 ≤ x9 then (if x9 ≤ (x0.length : Int) then ((some (x0.take (x9 : Int).toNat : List (S45))).bind fun aD => (if aE.length + aD.length < 4398046511104 then ((some (aE ++ aD : List (S45))).bind fun aC => (if aC.length < 4398046511104 then ((some (aC ++ [(⟨x1, x2⟩ : S45)] : List (S45))).bind fun aB => ((some (x0.drop (x9 : Int).toNat : List (S45))).bind fun aA => (if aB.length + aA.length < 4398046511104 then (some (aB ++ aA)) else (none)))) else (none))) else (none))) else (none)) else (none)))
end
def spec_PutKey.f (k : Nat) (l0 : List (S45)) (a1 : ByteArray) (a2 : ByteArray) : Option ((List (S45))) := (some (([] : List (S45)) : List (S45))).bind fun aA => (if aA.length + l0.length < 4398046511104 then (spec_PutKey.l0 k l0 a1 a2 (aA ++ l0) 0) else (none))
theorem spec_PutKey.calls (k : Nat) (A0 : Option Addr) (c0 : Nat) (l0 : List (S45)) (a1 : ByteArray) (a2 : ByteArray) (r : List (S45)) (w : World) (gO : Kd.C k45 w A0 l0.length l0) (gP : l0.length ≤ c0) (h : spec_PutKey.f k l0 a1 a2 = some r) :
 Calls Try.prog 37 #[.slice A0 l0.length c0, .string a1, .string a2] w fun e w' => ∃ v0_ : Value, e = .returned (v0_) ∧ Kd.R k45 45 w' w.heap.size (fun _ => True) v0_ r ∧ Below w.heap.size w w' := by
 have hP := Try.underlying45
 have dD := Aside0.mk gO
 have fA := Aside0.mk gP
 clear gO gP
 have HB := q_ (Below.refl w.heap.size w)
 have H := h
 clear h
 unfold spec_PutKey.f at H
 obtain ⟨dJ, cE, H⟩ := by_ H
 obtain ⟨gM, H⟩ := ia_ H
 obtain ⟨fG, bC⟩ : ∃ y_ : List (S45), y_ = (dJ ++ l0) := ⟨_, rfl⟩
 rw [← bC] at H
 have eJ := Aside0.mk bC
 clear bC
 have H' := Aside0.mk H
 clear H
 go_enter Try.func37, Try.ntmps37
 go_wp2_with (first | ((with_reducible refine gate_dst (N := 10) rfl ?_); refine Kd.R_lit k45 _ 45 ?hg (N := 10) ?hd (xs := ([] : List (S45))) (inner := []) (ok := fun _ => True) (okp := fun _ => True) ?hr ?hp (fun _ hk => hk) trivial (Below.refl _ _) (Nat.le_refl _) (by simp) ?_; (case hd => rfl); (case hg => rfl); (case hr => first | (go_simp; done) | (go_simp; rfl)); (case hp => exact (Reps.none _ _)); intro fP w5 dM hb hg_ hnew_; clear hg_ hnew_; (first | rw [← cE.out] at dM | (simp only [Int.reduceToNat] at dM; rw [← cE.out] at dM)); have cL := q_ (Kd.R_lower dM (below_size (be_ HB.out))); replace HB := q_ (below_step (be_ HB.out) hb); clear hb dM) | ((with_reducible refine gate_builtin (b := .append) (xs := #[.tmp 10, .tmp 11]) rfl ?_); at_builtin; refine Kd.R_append_rows k45 (w0 := w) w.heap.size rfl (.tmp 10) (.tmp 11) 24 45 (.agg #[(.string ⟨#[]⟩), (.string ⟨#[]⟩)]) 32 rfl Try.underlying24 info45 rfl (by decide) (by omega) fP dJ l0 _ _ _ (fun _ => True) (fun _ => False) rfl rfl ?aO ?aR (fun _ _ h => h) (fun _ h => h.elim) ?aF ?aB ?aS ?aL ?_; (case aR => exact kc_ (Kd.C_below dD.out HB.out)); (case aB => exact (be_ HB.out)); (case aF => exact (fun _ _ => trivial)); (case aO => exact (kr_ cL.out)); (case aS => exact (below_size (be_ HB.out))); (case aL => have := gM.out; omega); intro fO w7 ho hb hg hat; rw [← eJ.out] at ho; have aI := q_ (hb); have aH := q_ (ho); clear HB; clear cL; have HB := aI; have eX := aH; clear aI aH; clear ho hb hg hat))
 go_loopg [8] k (fun kq v8 w' => ∃ (aD : List (S45)) (aC : Int), v8 = .int .i64 aC ∧ Aside0 (spec_PutKey.l0 kq l0 a1 a2 aD aC = some r) ∧ Aside0 (kq ≤ k) ∧ Aside0 (Kd.R k45 45 w' w.heap.size (fun _ => True) fO aD) ∧ Aside0 (Below w.heap.size w w'))
 case atStart => exact ⟨(fG), (0), rs_, H', ⟨Nat.le_refl _⟩, ⟨kr_ eX.out⟩, ⟨be_ HB.out⟩⟩
 case round =>
  clear H'
  obtain ⟨aD, aC, rfl, HA, eZ, aE, HB⟩ := hrel
  cases gk with
  | zero => exact absurd HA.out (by simp [spec_PutKey.l0])
  | succ k1 =>
   have H := HA.out
   clear HA
   simp only [spec_PutKey.l0] at H
   by_cases c8 : aC < (aD.length : Int)
   ·
    rw [if_pos c8] at H
    have gI := decide_eq_true c8
    clear c8
    obtain ⟨hY, H⟩ := id_ H
    by_cases dC : ((rd_T45 aD aC).f0).toList = a1.toList
    rotate_left
    ·
     rw [if_neg dC] at H
     have eA := beq_eq_false_iff_ne.mpr dC
     have dZ := bne_iff_ne.mpr dC
     have H' := Aside0.mk H
     clear H
     obtain ⟨iJ, hT, gG⟩ := Kd.R_slice aE.out
     subst gG
     have aU : 0 ≤ (aC : Int) := od_
     have aT : aC < (aD.length : Int) := od_
     obtain ⟨eB, dB, aW, aV⟩ := at_T45 (Kd.R_reads' aE.out).2.2 aC aU aT
     cases dB
     replace aU := eq_true aU
     replace aT := eq_true aT
     go_wp2
     go_roundg k1
     case measure => have := eZ.out; omega
     case rel => exact ⟨(aD), (wrap64 (aC + 1)), rs_, H', ⟨by have := eZ.out; omega⟩, ⟨kr_ aE.out⟩, ⟨be_ HB.out⟩⟩
    rw [if_pos dC] at H
    have eA := beq_iff_eq.mpr dC
    have dZ := bne_eq_false_iff_eq.mpr dC
    clear dC
    obtain ⟨fF, bB⟩ : ∃ y_ : List (S45), y_ = (aD.set (aC : Int).toNat (⟨(rd_T45 aD aC).f0, a2⟩ : S45)) := ⟨_, rfl⟩
    rw [← bB] at H
    have eI := Aside0.mk bB
    clear bB
    obtain rfl := Option.some.inj H
    obtain ⟨iK, dW, gH⟩ := Kd.R_slice aE.out
    subst gH
    have aU : 0 ≤ (aC : Int) := od_
    have aT : aC < (aD.length : Int) := od_
    obtain ⟨eB, dB, aW, aV⟩ := at_T45 (Kd.R_reads' aE.out).2.2 aC aU aT
    cases dB
    replace aU := eq_true aU
    replace aT := eq_true aT
    have fZ : 0 ≤ (aC : Int) := od_
    have fV : (aC : Int) < ((aD.length : Int) : Int) := od_
    obtain ⟨aM, hU, dV, dU, gE, hV, eY⟩ := Kd.R_form aE.out (by omega)
    (first | cases dV | (injection dV with ea_ en_ ec_; (first | subst ea_ | (injection ea_ with ea_; subst ea_)); subst ec_; clear en_))
    have gN := Aside0.mk dU
    have iH := Aside0.mk eY
    clear dU gE eY
    (first | simp only [add_plain] at aW | skip)
    (first | simp only [add_plain] at aV | skip)
    obtain ⟨hX, dN, dP, bJ, bH⟩ := Kd.R_elem aE.out z45 (aC : Int) fZ fV
    obtain rfl := k45_openM dP
    have gB : wr.cell? ⟨aM, (aC : Int).toNat * 2, none⟩ = some (.string ((rd_T45 aD aC).f0)) := bJ 0 _ rfl
    have gA : wr.cell? ⟨aM, (aC : Int).toNat * 2 + 1, none⟩ = some (.string ((rd_T45 aD aC).f1)) := bJ 1 _ rfl
    have gD : wr.frozen? ⟨aM, (aC : Int).toNat * 2, none⟩ = false := bH 0
    have gC : wr.frozen? ⟨aM, (aC : Int).toNat * 2 + 1, none⟩ = false := bH 1
    clear dN bJ bH dP
    replace fZ := eq_true fZ
    replace fV := eq_true fV
    have eQ := q_ (show Kd.R k45 45 wr w.heap.size (fun _ => True) (.slice (some ⟨aM, 0, none⟩) aD.length dW) aD from (kr_ aE.out))
    obtain ⟨hW, bX, dO, bI, bW⟩ := Kd.R_elem eQ.out z45 (aC : Int) od_ (by have h_ : (aC : Int) < ((aD.length : Int) : Int) := od_; first | exact h_ | (have e_ := (Kd.R_reads' aE.out).1; omega) | simpa using h_)
    obtain rfl := k45_openM dO
    have dE := Kd.R_seg eQ.out (aC : Int) od_ (by have h_ : (aC : Int) < ((aD.length : Int) : Int) := od_; first | exact h_ | (have e_ := (Kd.R_reads' aE.out).1; omega) | simpa using h_) (seg := [.string a2]) (j := 1) bX bI (show 2 ≤ 2 from by decide) (x' := (⟨(rd_T45 aD aC).f0, a2⟩ : S45)) (k45_mkM _ _ _ (⟨(rd_T45 aD aC).f0, a2⟩ : S45) ) (fun _ hk => hk)
    have cQ := bI 1 _ rfl
    (try simp only [show (k45).sz = 2 from rfl, Nat.mul_one, Nat.add_zero] at cQ)
    have cT := bW 1
    (try simp only [show (k45).sz = 2 from rfl, Nat.mul_one, Nat.add_zero] at cT)
    clear bX bI bW dO
    go_wp2_with (first | ((with_reducible refine gate_store (t := 9) (p := 30) rfl ?_); refine store_event (t := 9) (p := 30) (v := ?vo_w14) (w1 := (wr.setCell ⟨aM, (aC : Int).toNat * 2 + 1, none⟩ (.string a2))) ?hg ?ho ?hn ?hr ?_; (case ho => rfl); (case hg => rfl); (case hn => rfl); (case hr => first | (go_simp; done) | (go_simp; rfl)); intro fH hw; have hg : wr.grownBy fH (some aM) := (by rw [hw]; exact dE.2); have hp_ : Kd.R k45 45 fH w.heap.size (fun _ => True) (.slice (some ⟨aM, 0, none⟩) aD.length dW) fF := (by rw [hw, eI.out]; exact dE.1); clear dE; replace aE := q_ (hp_); replace HB := q_ ((by rw [hw]; exact below_set (HB.out) gN.out : Below w.heap.size w fH)); clear hg hw hp_))
    go_ret
    exact ⟨_, rf_, kr_ aE.out, be_ HB.out⟩
   ·
    rw [if_neg c8] at H
    have gI := decide_eq_false c8
    clear c8
    have H' := Aside0.mk H
    clear H
    obtain ⟨iI, hS, gF⟩ := Kd.R_slice aE.out
    subst gF
    go_wp2
    go_loopg [9] k1 (fun kq v9 w' => ∃ (aA : Int), v9 = .int .i64 aA ∧ Aside0 (spec_PutKey.l1 kq l0 a1 a2 aA = some r) ∧ Aside0 (kq ≤ k1) ∧ Aside0 (Below w.heap.size w w'))
    case atStart => exact ⟨(0), rs_, H', ⟨Nat.le_refl _⟩, ⟨be_ HB.out⟩⟩
    case round =>
     clear H'
     try clear hR
     try clear hQ
     obtain ⟨aA, rfl, HA, hC, HB⟩ := hrel
     cases gk with
     | zero => exact absurd HA.out (by simp [spec_PutKey.l1])
     | succ k2 =>
      have H := HA.out
      clear HA
      simp only [spec_PutKey.l1] at H
      by_cases dG : aA < (l0.length : Int)
      ·
       rw [if_pos dG] at H
       have dY := decide_eq_true dG
       clear dG
       obtain ⟨hB, H⟩ := id_ H
       by_cases dF : ((Op.bytesLess a1.toList (((rd_T45 l0 aA).f0).toList)) = true)
       rotate_left
       · rw [if_neg dF] at H
         have dX : (Op.bytesLess a1.toList (((rd_T45 l0 aA).f0).toList)) = false := by simpa using dF
         clear dF
         have H' := Aside0.mk H
         clear H
         obtain ⟨aG, dA, bN, bM, fY, fU⟩ := at2_ HB.out (at_T45 dD.out aA)
         cases dA
         go_wp2
         go_roundg k2
         case measure => have := eZ.out; have := hC.out; omega
         case rel => exact ⟨(wrap64 (aA + 1)), rs_, H', ⟨by have := eZ.out; have := hC.out; omega⟩, ⟨be_ HB.out⟩⟩
       rw [if_pos dF] at H
       have dX : (Op.bytesLess a1.toList (((rd_T45 l0 aA).f0).toList)) = true := dF
       clear dF
       obtain ⟨fE, cD, H⟩ := by_ H
       have hA := eq_true (od_ : 0 ≤ aA)
       obtain ⟨gL, H⟩ := ip_ H
       have gZ := eq_true gL
       have gY : decide (aA ≤ (l0.length : Int)) = true := decide_eq_true gL
       clear gL
       obtain ⟨cN, cC, H⟩ := by_ H
       obtain ⟨eP, H⟩ := ia_ H
       obtain ⟨fD, eH, H⟩ := by_ H
       obtain ⟨eO, H⟩ := ia_ H
       obtain ⟨dI, eG, H⟩ := by_ H
       have gX := eq_true (od_ : 0 ≤ aA)
       have gW := eq_true (od_ : aA ≤ (l0.length : Int))
       obtain ⟨aQ, cB, H⟩ := by_ H
       obtain ⟨eN, H⟩ := ia_ H
       obtain ⟨hI, bA⟩ : ∃ y_ : List (S45), y_ = (dI ++ aQ) := ⟨_, rfl⟩
       rw [← bA] at H
       have eF := Aside0.mk bA
       clear bA
       obtain rfl := Option.some.inj H
       obtain ⟨aG, dA, bN, bM, fY, fU⟩ := at2_ HB.out (at_T45 dD.out aA)
       cases dA
       go_wp2_with (first | ((with_reducible refine gate_dst (N := 47) rfl ?_); refine Kd.R_lit k45 _ 45 ?hg (N := 47) ?hd (xs := ([] : List (S45))) (inner := []) (ok := fun _ => True) (okp := fun _ => True) ?hr ?hp (fun _ hk => hk) trivial (Below.refl _ _) (Nat.le_refl _) (by simp) ?_; (case hd => rfl); (case hg => rfl); (case hr => first | (go_simp; done) | (go_simp; rfl)); (case hp => exact (Reps.none _ _)); intro fN iU bG hb hg_ hnew_; clear hg_ hnew_; (first | rw [← cD.out] at bG | (simp only [Int.reduceToNat] at bG; rw [← cD.out] at bG)); have cK := q_ (Kd.R_lower bG (below_size (be_ HB.out))); replace HB := q_ (below_step (be_ HB.out) hb); clear hb bG; have fT : (aA : Int) ≤ ((l0.length : Int) : Int) := od_; obtain ⟨hO, bV, _, dL, _⟩ := info_parts info45; have aY : l0.length ≤ c0 := fA.out; have dT : Kd.C k45 _ (some aG) l0.length l0 := dD.out; have cX := cut_to (P := Try.prog) 24 45 .i64 Try.underlying24 bV (some aG) l0.length c0 aA od_ fT aY; have cS := Kd.C_take (m := (aA : Int).toNat) dT (by omega); have cP : cN.length = (aA : Int).toNat := (by rw [cC.out, List.length_take]; omega); rw [← cC.out] at cS; rw [← cP] at cX; have eU := Aside0.mk cS; have hG := q_ (show cN.length ≤ c0 from by omega); clear cS dT aY bV dL; have iE := Aside0.mk cP; clear cP; replace fT := eq_true fT) | ((with_reducible refine gate_builtin (b := .append) (xs := #[.tmp 47, .tmp 50]) rfl ?_); at_builtin; refine Kd.R_append_rows k45 (w0 := w) w.heap.size rfl (.tmp 47) (.tmp 50) 24 45 (.agg #[(.string ⟨#[]⟩), (.string ⟨#[]⟩)]) 32 rfl Try.underlying24 info45 rfl (by decide) (by omega) fN fE cN _ _ _ (fun _ => True) (fun _ => False) rfl rfl ?aO ?aR (fun _ _ h => h) (fun _ h => h.elim) ?aF ?aB ?aS ?aL ?_; (case aR => exact kc_ (Kd.C_below eU.out HB.out)); (case aB => exact (be_ HB.out)); (case aF => exact (fun _ _ => trivial)); (case aO => exact (kr_ cK.out)); (case aS => exact (below_size (be_ HB.out))); (case aL => have := eP.out; omega); intro fM iT ho hb hg hat; rw [← eH.out] at ho; have aI := q_ (hb); have aH := q_ (ho); clear HB; clear cK; have HB := aI; have cJ := aH; clear aI aH; clear ho hb hg hat) | ((with_reducible refine gate_builtin (b := .append) (xs := #[.tmp 51, .tmp 55]) rfl ?_); at_builtin; refine Kd.R_append k45 (w0 := w) w.heap.size rfl (.tmp 51) (.tmp 55) 24 45 (.agg #[(.string ⟨#[]⟩), (.string ⟨#[]⟩)]) 32 rfl Try.underlying24 info45 rfl (by decide) (by omega) fM fD (⟨a1, a2⟩ : S45) [.string a1, .string a2] (fun _ => True) (fun _ => False) rfl rfl ?aP (fun _ hk => hk.elim) ?aF ?aO ?aB ?aS ?aL ?_; (case aP => exact k45_mkM _ _ _ (⟨a1, a2⟩ : S45)); (case aB => exact (be_ HB.out)); (case aF => exact (fun _ _ => trivial)); (case aO => exact (kr_ cJ.out)); (case aS => exact (below_size (be_ HB.out))); (case aL => have := eO.out; omega); intro fL iS ho hb hg hat; rw [← eG.out] at ho; have aI := q_ (hb); have aH := q_ (ho); clear HB; clear cJ; have HB := aI; have cI := aH; clear aI aH; clear ho hb hg hat; have fS : (aA : Int) ≤ ((l0.length : Int) : Int) := od_; obtain ⟨hN, bU, _, bR, _⟩ := info_parts info45; have aK : l0.length ≤ c0 := fA.out; have dS : Kd.C k45 _ (some aG) l0.length l0 := dD.out; have fX : (0 : Int) ≤ (aA : Int) := od_; have cW := cut_from (P := Try.prog) 24 45 .i64 Try.underlying24 bU 2 bR (some aG) l0.length c0 aA fX fS; have bE := Kd.C_drop (m := (aA : Int).toNat) (c := c0) dS (by omega) aK; obtain ⟨iM, bP⟩ : ∃ A1, A1 = (if c0 = (aA : Int).toNat then (some aG) else ((some aG) : Option Addr).map (·.add ((aA : Int).toNat * 2))) := ⟨_, rfl⟩; obtain ⟨iA, cZ⟩ : ∃ c1, c1 = c0 - (aA : Int).toNat := ⟨_, rfl⟩; have bL : aQ.length = l0.length - (aA : Int).toNat := (by rw [cB.out, List.length_drop] <;> omega); rw [show (l0).drop (aA : Int).toNat = aQ from cB.out.symm] at bE; replace bE : Kd.C k45 _ iM aQ.length aQ := (by rw [bP]; exact bE); rw [← bL, ← bP, ← cZ] at cW; have eT := Aside0.mk bE; have hF := q_ (show aQ.length ≤ iA from by rw [bL, cZ]; exact Nat.sub_le_sub_right aK _); clear bE dS aK bU bR cZ; have iD := Aside0.mk bL; have iG := Aside0.mk bP; clear bL bP; replace fS := eq_true fS) | ((with_reducible refine gate_builtin (b := .append) (xs := #[.tmp 57, .tmp 60]) rfl ?_); at_builtin; refine Kd.R_append_rows k45 (w0 := w) w.heap.size rfl (.tmp 57) (.tmp 60) 24 45 (.agg #[(.string ⟨#[]⟩), (.string ⟨#[]⟩)]) 32 rfl Try.underlying24 info45 rfl (by decide) (by omega) fL dI aQ _ _ _ (fun _ => True) (fun _ => False) rfl rfl ?aO ?aR (fun _ _ h => h) (fun _ h => h.elim) ?aF ?aB ?aS ?aL ?_; (case aR => exact kc_ (Kd.C_below eT.out HB.out)); (case aB => exact (be_ HB.out)); (case aF => exact (fun _ _ => trivial)); (case aO => exact (kr_ cI.out)); (case aS => exact (below_size (be_ HB.out))); (case aL => have := eN.out; omega); intro hK iR ho hb hg hat; rw [← eF.out] at ho; have aI := q_ (hb); have aH := q_ (ho); clear HB; clear cI; have HB := aI; have eW := aH; clear aI aH; clear ho hb hg hat))
       go_ret
       exact ⟨_, rf_, kr_ eW.out, be_ HB.out⟩
      ·
       rw [if_neg dG] at H
       have dY := decide_eq_false dG
       clear dG
       obtain ⟨fC, cA, H⟩ := by_ H
       obtain ⟨gK, H⟩ := ip_ H
       have gV := eq_true gK
       have gU : decide (0 ≤ aA) = true := decide_eq_true gK
       clear gK
       obtain ⟨gJ, H⟩ := ip_ H
       have gT := eq_true gJ
       have gS : decide (aA ≤ (l0.length : Int)) = true := decide_eq_true gJ
       clear gJ
       obtain ⟨cM, bZ, H⟩ := by_ H
       obtain ⟨eM, H⟩ := ia_ H
       obtain ⟨fB, eE, H⟩ := by_ H
       obtain ⟨eL, H⟩ := ia_ H
       obtain ⟨dH, eD, H⟩ := by_ H
       have gR := eq_true (od_ : 0 ≤ aA)
       have gQ := eq_true (od_ : aA ≤ (l0.length : Int))
       obtain ⟨aN, bY, H⟩ := by_ H
       obtain ⟨eK, H⟩ := ia_ H
       obtain ⟨hH, aZ⟩ : ∃ y_ : List (S45), y_ = (dH ++ aN) := ⟨_, rfl⟩
       rw [← aZ] at H
       have eC := Aside0.mk aZ
       clear aZ
       obtain rfl := Option.some.inj H
       go_wp2_with (first | ((with_reducible refine gate_dst (N := 47) rfl ?_); refine Kd.R_lit k45 _ 45 ?hg (N := 47) ?hd (xs := ([] : List (S45))) (inner := []) (ok := fun _ => True) (okp := fun _ => True) ?hr ?hp (fun _ hk => hk) trivial (Below.refl _ _) (Nat.le_refl _) (by simp) ?_; (case hd => rfl); (case hg => rfl); (case hr => first | (go_simp; done) | (go_simp; rfl)); (case hp => exact (Reps.none _ _)); intro fK iQ bF hb hg_ hnew_; clear hg_ hnew_; (first | rw [← cA.out] at bF | (simp only [Int.reduceToNat] at bF; rw [← cA.out] at bF)); have cH := q_ (Kd.R_lower bF (below_size (be_ HB.out))); replace HB := q_ (below_step (be_ HB.out) hb); clear hb bF; have fR : (aA : Int) ≤ ((l0.length : Int) : Int) := od_; obtain ⟨hM, bT, _, dK, _⟩ := info_parts info45; have aX : l0.length ≤ c0 := fA.out; have dR : Kd.C k45 _ A0 l0.length l0 := dD.out; have cV := cut_to (P := Try.prog) 24 45 .i64 Try.underlying24 bT A0 l0.length c0 aA od_ fR aX; have cR := Kd.C_take (m := (aA : Int).toNat) dR (by omega); have cO : cM.length = (aA : Int).toNat := (by rw [bZ.out, List.length_take]; omega); rw [← bZ.out] at cR; rw [← cO] at cV; have eS := Aside0.mk cR; have hE := q_ (show cM.length ≤ c0 from by omega); clear cR dR aX bT dK; have iC := Aside0.mk cO; clear cO; replace fR := eq_true fR) | ((with_reducible refine gate_builtin (b := .append) (xs := #[.tmp 47, .tmp 50]) rfl ?_); at_builtin; refine Kd.R_append_rows k45 (w0 := w) w.heap.size rfl (.tmp 47) (.tmp 50) 24 45 (.agg #[(.string ⟨#[]⟩), (.string ⟨#[]⟩)]) 32 rfl Try.underlying24 info45 rfl (by decide) (by omega) fK fC cM _ _ _ (fun _ => True) (fun _ => False) rfl rfl ?aO ?aR (fun _ _ h => h) (fun _ h => h.elim) ?aF ?aB ?aS ?aL ?_; (case aR => exact kc_ (Kd.C_below eS.out HB.out)); (case aB => exact (be_ HB.out)); (case aF => exact (fun _ _ => trivial)); (case aO => exact (kr_ cH.out)); (case aS => exact (below_size (be_ HB.out))); (case aL => have := eM.out; omega); intro fJ iP ho hb hg hat; rw [← eE.out] at ho; have aI := q_ (hb); have aH := q_ (ho); clear HB; clear cH; have HB := aI; have cG := aH; clear aI aH; clear ho hb hg hat) | ((with_reducible refine gate_builtin (b := .append) (xs := #[.tmp 51, .tmp 55]) rfl ?_); at_builtin; refine Kd.R_append k45 (w0 := w) w.heap.size rfl (.tmp 51) (.tmp 55) 24 45 (.agg #[(.string ⟨#[]⟩), (.string ⟨#[]⟩)]) 32 rfl Try.underlying24 info45 rfl (by decide) (by omega) fJ fB (⟨a1, a2⟩ : S45) [.string a1, .string a2] (fun _ => True) (fun _ => False) rfl rfl ?aP (fun _ hk => hk.elim) ?aF ?aO ?aB ?aS ?aL ?_; (case aP => exact k45_mkM _ _ _ (⟨a1, a2⟩ : S45)); (case aB => exact (be_ HB.out)); (case aF => exact (fun _ _ => trivial)); (case aO => exact (kr_ cG.out)); (case aS => exact (below_size (be_ HB.out))); (case aL => have := eL.out; omega); intro fI iO ho hb hg hat; rw [← eD.out] at ho; have aI := q_ (hb); have aH := q_ (ho); clear HB; clear cG; have HB := aI; have cF := aH; clear aI aH; clear ho hb hg hat; have fQ : (aA : Int) ≤ ((l0.length : Int) : Int) := od_; obtain ⟨hL, bS, _, bQ, _⟩ := info_parts info45; have aJ : l0.length ≤ c0 := fA.out; have dQ : Kd.C k45 _ A0 l0.length l0 := dD.out; have fW : (0 : Int) ≤ (aA : Int) := od_; have cU := cut_from (P := Try.prog) 24 45 .i64 Try.underlying24 bS 2 bQ A0 l0.length c0 aA fW fQ; have bD := Kd.C_drop (m := (aA : Int).toNat) (c := c0) dQ (by omega) aJ; obtain ⟨iL, bO⟩ : ∃ A1, A1 = (if c0 = (aA : Int).toNat then A0 else (A0 : Option Addr).map (·.add ((aA : Int).toNat * 2))) := ⟨_, rfl⟩; obtain ⟨hZ, cY⟩ : ∃ c1, c1 = c0 - (aA : Int).toNat := ⟨_, rfl⟩; have bK : aN.length = l0.length - (aA : Int).toNat := (by rw [bY.out, List.length_drop] <;> omega); rw [show (l0).drop (aA : Int).toNat = aN from bY.out.symm] at bD; replace bD : Kd.C k45 _ iL aN.length aN := (by rw [bO]; exact bD); rw [← bK, ← bO, ← cY] at cU; have eR := Aside0.mk bD; have hD := q_ (show aN.length ≤ hZ from by rw [bK, cY]; exact Nat.sub_le_sub_right aJ _); clear bD dQ aJ bS bQ cY; have iB := Aside0.mk bK; have iF := Aside0.mk bO; clear bK bO; replace fQ := eq_true fQ) | ((with_reducible refine gate_builtin (b := .append) (xs := #[.tmp 57, .tmp 60]) rfl ?_); at_builtin; refine Kd.R_append_rows k45 (w0 := w) w.heap.size rfl (.tmp 57) (.tmp 60) 24 45 (.agg #[(.string ⟨#[]⟩), (.string ⟨#[]⟩)]) 32 rfl Try.underlying24 info45 rfl (by decide) (by omega) fI dH aN _ _ _ (fun _ => True) (fun _ => False) rfl rfl ?aO ?aR (fun _ _ h => h) (fun _ h => h.elim) ?aF ?aB ?aS ?aL ?_; (case aR => exact kc_ (Kd.C_below eR.out HB.out)); (case aB => exact (be_ HB.out)); (case aF => exact (fun _ _ => trivial)); (case aO => exact (kr_ cF.out)); (case aS => exact (below_size (be_ HB.out))); (case aL => have := eK.out; omega); intro hJ iN ho hb hg hat; rw [← eC.out] at ho; have aI := q_ (hb); have aH := q_ (ho); clear HB; clear cF; have HB := aI; have eV := aH; clear aI aH; clear ho hb hg hat))
       go_ret
       exact ⟨_, rf_, kr_ eV.out, be_ HB.out⟩
def spec_l1Str.f (aD : List Int) (aC : Int) (aB : Int) (l1 : List ByteArray) : Option (ByteArray × Int × Int) := (spec_l1Below.f aD aC aB (l1.length : Int)).bind fun aA => (if 0 ≤ aA.1 then (if aA.1 < (l1.length : Int) then (some (rdOf ByteArray.empty l1 aA.1, aA.2.1, aA.2.2)) else (none)) else (none))
theorem spec_l1Str.calls (g : Nat) (aC : List Int) (aE : Int) (aD : Int) (A1 : Option Addr) (c1 : Nat) (l1 : List ByteArray) (r1 : ByteArray) (r2 : Int) (r3 : Int) (w0 w : World) (hI : IsS61 w0 w g aC aE aD) (hB : Below w0.heap.size w0 w) (aN : Kd.C Kd.string w A1 l1.length l1) (aO : l1.length ≤ c1) (aL : ∀ ad, A1 = some ad → 0 < l1.length → ad.block ≠ g) (h : spec_l1Str.f aC aE aD l1 = some (r1, r2, r3)) :
 Calls Try.prog 40 #[.pointer (some ⟨g, 0, none⟩), .slice A1 l1.length c1] w fun e w' => e = .returned (.string r1) ∧ IsS61 w0 w' g aC r2 r3 ∧ Below w0.heap.size w0 w' ∧ KeepBut w w' g none := by
 have aR := Aside0.mk aN
 have aT := Aside0.mk aO
 clear aN aO
 have aH := Aside0.mk hI
 have HK := q_ (KeepBut.refl w g none)
 have HL := Aside0.mk hB.size
 clear hI
 have aS := Aside0.mk hB.size
 have HB := Aside0.mk hB
 clear hB
 have H := h
 clear h
 unfold spec_l1Str.f at H
 obtain ⟨⟨aB, aK, aJ⟩, A3, H⟩ := bo_ H; try dsimp only at H
 obtain ⟨aQ, H⟩ := id_ H
 obtain ⟨aP, H⟩ := id_ H
 simp only [Option.some.injEq, Prod.mk.injEq] at H
 obtain ⟨rfl, rfl, rfl⟩ := H
 go_enter Try.func40, Try.ntmps40
 go_wp2_with (first | ((with_reducible refine gate_callee (f := 36) rfl ?_); refine gl_ (some 9) Try.func36 #[.pointer (some ⟨g, 0, none⟩), .int .i64 (l1.length : Int)] rfl al_ ?_; (with_reducible refine (spec_l1Below.calls g aC aE aD (l1.length : Int) aB aK aJ w0 _ ?side1 ?side2 A3.out).mono ?_); (case side1 => repeat (first | (with_reducible first | exact aH.out | apply IsS61.alloc | apply IsS61.drewN | apply IsS61.drew | apply IsS61.set_1 | apply IsS61.set_2) | exact aH.out)); (case side2 => repeat (first | (with_reducible first | exact HB.out | apply below_alloc | apply pw_below_drewN | apply below_drew1 | refine below_set ?_ (IsS61.ge aH.out)) | exact HB.out)); rintro e w6 ⟨rfl, hi, hb, hk⟩; refine ⟨_, rfl, ?_⟩; replace HK := q_ (KeepBut.trans (by repeat (first | (with_reducible first | exact HK.out | apply KeepBut.set_ | apply keep_drewN | apply keep_drew | apply keep_alloc) | exact HK.out)) hk (.inl rfl)); replace HB := q_ (hb); replace aH := q_ (hi); (try clear hb); (try clear hk); (try clear hi); have aG : 0 ≤ (aB : Int) := od_; have aF : aB < (l1.length : Int) := od_; obtain ⟨aI, aM, aA⟩ := Kd.at_string aR.out aB aG aF; cases aM; replace aA := keep_cell HK.out aA (by first | (rw [add_block]; exact aL _ rfl (by omega)) | exact aL _ rfl (by omega) | exact aL aI rfl (by omega)); replace aG := eq_true aG; replace aF := eq_true aF))
 go_ret
 exact ⟨rf_, by repeat (first | (with_reducible first | exact aH.out | apply IsS61.alloc | apply IsS61.drewN | apply IsS61.drew | apply IsS61.set_1 | apply IsS61.set_2) | exact aH.out), bs_ HB.out (IsS61.ge aH.out), by repeat (first | (with_reducible first | exact HK.out | apply KeepBut.set_ | apply keep_drewN | apply keep_drew | apply keep_alloc) | exact HK.out)⟩
def spec_l3Key.f (aD : List Int) (aC : Int) (aB : Int) : Option (ByteArray × Int × Int) := (spec_l1Str.f aD aC aB (([(⟨#[97]⟩ : ByteArray), (⟨#[98]⟩ : ByteArray), (⟨#[99]⟩ : ByteArray), (⟨#[107, 49]⟩ : ByteArray), (⟨#[107, 50]⟩ : ByteArray), (⟨#[109]⟩ : ByteArray), (⟨#[122]⟩ : ByteArray)] : List ByteArray))).bind fun aA => (some (aA.1, aA.2.1, aA.2.2))
theorem spec_l3Key.calls (g : Nat) (aC : List Int) (aF : Int) (aE : Int) (r1 : ByteArray) (r2 : Int) (r3 : Int) (w0 w : World) (hI : IsS61 w0 w g aC aF aE) (hB : Below w0.heap.size w0 w) (h : spec_l3Key.f aC aF aE = some (r1, r2, r3)) :
 Calls Try.prog 38 #[.pointer (some ⟨g, 0, none⟩)] w fun e w' => e = .returned (.string r1) ∧ IsS61 w0 w' g aC r2 r3 ∧ Below w0.heap.size w0 w' ∧ KeepBut w w' g none := by
 have aB := Aside0.mk hI
 have HK := q_ (KeepBut.refl w g none)
 have HL := Aside0.mk hB.size
 clear hI
 have aQ := Aside0.mk hB.size
 have HB := Aside0.mk hB
 clear hB
 have H := h
 clear h
 unfold spec_l3Key.f at H
 obtain ⟨aH, aD⟩ : ∃ y_ : List ByteArray, y_ = (([(⟨#[97]⟩ : ByteArray), (⟨#[98]⟩ : ByteArray), (⟨#[99]⟩ : ByteArray), (⟨#[107, 49]⟩ : ByteArray), (⟨#[107, 50]⟩ : ByteArray), (⟨#[109]⟩ : ByteArray), (⟨#[122]⟩ : ByteArray)] : List ByteArray)) := ⟨_, rfl⟩
 rw [← aD] at H
 have aG := Aside0.mk aD
 clear aD
 obtain ⟨⟨aL, aK, aJ⟩, A2, H⟩ := bo_ H; try dsimp only at H
 simp only [Option.some.injEq, Prod.mk.injEq] at H
 obtain ⟨rfl, rfl, rfl⟩ := H
 go_enter Try.func38, Try.ntmps38
 go_wp2_with (first | ((with_reducible refine gate_dst (N := 4) rfl ?_); refine Kd.R_lit Kd.string _ 9 ?hg (N := 4) ?hd (xs := ([(⟨#[97]⟩ : ByteArray), (⟨#[98]⟩ : ByteArray), (⟨#[99]⟩ : ByteArray), (⟨#[107, 49]⟩ : ByteArray), (⟨#[107, 50]⟩ : ByteArray), (⟨#[109]⟩ : ByteArray), (⟨#[122]⟩ : ByteArray)] : List ByteArray)) (inner := [.string (⟨#[97]⟩ : ByteArray), .string (⟨#[98]⟩ : ByteArray), .string (⟨#[99]⟩ : ByteArray), .string (⟨#[107, 49]⟩ : ByteArray), .string (⟨#[107, 50]⟩ : ByteArray), .string (⟨#[109]⟩ : ByteArray), .string (⟨#[122]⟩ : ByteArray)]) (ok := fun _ => True) (okp := fun _ => True) ?hr ?hp (fun _ hk => hk) trivial (Below.refl _ _) (Nat.le_refl _) (by simp) ?_; (case hd => rfl); (case hg => rfl); (case hr => first | (go_simp; done) | (go_simp; rfl)); (case hp => exact (Reps.one (show Kd.M Kd.string _ _ _ (⟨#[97]⟩ : ByteArray) [.string (⟨#[97]⟩ : ByteArray)] from rfl) (Reps.one (show Kd.M Kd.string _ _ _ (⟨#[98]⟩ : ByteArray) [.string (⟨#[98]⟩ : ByteArray)] from rfl) (Reps.one (show Kd.M Kd.string _ _ _ (⟨#[99]⟩ : ByteArray) [.string (⟨#[99]⟩ : ByteArray)] from rfl) (Reps.one (show Kd.M Kd.string _ _ _ (⟨#[107, 49]⟩ : ByteArray) [.string (⟨#[107, 49]⟩ : ByteArray)] from rfl) (Reps.one (show Kd.M Kd.string _ _ _ (⟨#[107, 50]⟩ : ByteArray) [.string (⟨#[107, 50]⟩ : ByteArray)] from rfl) (Reps.one (show Kd.M Kd.string _ _ _ (⟨#[109]⟩ : ByteArray) [.string (⟨#[109]⟩ : ByteArray)] from rfl) (Reps.one (show Kd.M Kd.string _ _ _ (⟨#[122]⟩ : ByteArray) [.string (⟨#[122]⟩ : ByteArray)] from rfl) (Reps.none _ _))))))))); intro aM w3 aI hb hg_ hnew_; clear hg_ hnew_; (first | rw [← aG.out] at aI | (simp only [Int.reduceToNat] at aI; rw [← aG.out] at aI)); have aA := q_ (Kd.R_lower aI (keep_size (w := w) (g := g) (row := none) (by repeat (first | (with_reducible first | exact HK.out | apply KeepBut.set_ | apply keep_drewN | apply keep_drew | apply keep_alloc) | exact HK.out)))); replace HK := q_ (KeepBut.trans (by repeat (first | (with_reducible first | exact HK.out | apply KeepBut.set_ | apply keep_drewN | apply keep_drew | apply keep_alloc) | exact HK.out)) (KeepBut.of_below hb g none) (.inl rfl)); replace HB := q_ (below_step (bs_ HB.out (IsS61.ge aB.out)) hb); replace aB := q_ (IsS61.below (by repeat (first | (with_reducible first | exact aB.out | apply IsS61.alloc | apply IsS61.drewN | apply IsS61.drew | apply IsS61.set_1 | apply IsS61.set_2) | exact aB.out)) hb); clear hb aI; obtain ⟨aP, aO, aN⟩ := Kd.R_slice aA.out; subst aN) | ((with_reducible refine gate_callee (f := 40) rfl ?_); refine gl_ (some 5) Try.func40 #[.pointer (some ⟨g, 0, none⟩), .slice aP aH.length aO] rfl al_ ?_; (with_reducible refine (spec_l1Str.calls g aC aF aE _ _ aH aL aK aJ w0 _ ?side1 ?side2 ?side3 ?side4 ?side5 A2.out).mono ?_); (case side1 => repeat (first | (with_reducible first | exact aB.out | apply IsS61.alloc | apply IsS61.drewN | apply IsS61.drew | apply IsS61.set_1 | apply IsS61.set_2) | exact aB.out)); (case side2 => repeat (first | (with_reducible first | exact HB.out | apply below_alloc | apply pw_below_drewN | apply below_drew1 | refine below_set ?_ (IsS61.ge aB.out)) | exact HB.out)); (case side3 => exact kc_ (Kd.R_reads' aA.out).2.2); (case side4 => exact (Kd.R_reads' aA.out).2.1); (case side5 => exact far_slice (IsS61.own_ne aB.out aA.out (by decide))); rintro e w6 ⟨rfl, hi, hb, hk⟩; refine ⟨_, rfl, ?_⟩; replace aA := q_ (Kd.R_mono (Kd.R_keep (IsS61.apart (show IsS61 w0 _ g aC aF aE from by repeat (first | (with_reducible first | exact aB.out | apply IsS61.alloc | apply IsS61.drewN | apply IsS61.drew | apply IsS61.set_1 | apply IsS61.set_2) | exact aB.out)) (kr_ aA.out) (by decide)) hk (fun _ h => h.2)) (fun _ h => h.1)); replace HK := q_ (KeepBut.trans (by repeat (first | (with_reducible first | exact HK.out | apply KeepBut.set_ | apply keep_drewN | apply keep_drew | apply keep_alloc) | exact HK.out)) hk (.inl rfl)); replace HB := q_ (hb); replace aB := q_ (hi); (try clear hb); (try clear hk); (try clear hi)))
 go_ret
 exact ⟨rf_, by repeat (first | (with_reducible first | exact aB.out | apply IsS61.alloc | apply IsS61.drewN | apply IsS61.drew | apply IsS61.set_1 | apply IsS61.set_2) | exact aB.out), bs_ HB.out (IsS61.ge aB.out), by repeat (first | (with_reducible first | exact HK.out | apply KeepBut.set_ | apply keep_drewN | apply keep_drew | apply keep_alloc) | exact HK.out)⟩
def spec_l3Val.f (aD : List Int) (aC : Int) (aB : Int) : Option (ByteArray × Int × Int) := (spec_l1Str.f aD aC aB (([(⟨#[]⟩ : ByteArray), (⟨#[49]⟩ : ByteArray), (⟨#[50]⟩ : ByteArray), (⟨#[120]⟩ : ByteArray), (⟨#[118, 97, 108, 117, 101]⟩ : ByteArray), (⟨#[0]⟩ : ByteArray)] : List ByteArray))).bind fun aA => (some (aA.1, aA.2.1, aA.2.2))
theorem spec_l3Val.calls (g : Nat) (aC : List Int) (aF : Int) (aE : Int) (r1 : ByteArray) (r2 : Int) (r3 : Int) (w0 w : World) (hI : IsS61 w0 w g aC aF aE) (hB : Below w0.heap.size w0 w) (h : spec_l3Val.f aC aF aE = some (r1, r2, r3)) :
 Calls Try.prog 39 #[.pointer (some ⟨g, 0, none⟩)] w fun e w' => e = .returned (.string r1) ∧ IsS61 w0 w' g aC r2 r3 ∧ Below w0.heap.size w0 w' ∧ KeepBut w w' g none := by
 have aB := Aside0.mk hI
 have HK := q_ (KeepBut.refl w g none)
 have HL := Aside0.mk hB.size
 clear hI
 have aQ := Aside0.mk hB.size
 have HB := Aside0.mk hB
 clear hB
 have H := h
 clear h
 unfold spec_l3Val.f at H
 obtain ⟨aH, aD⟩ : ∃ y_ : List ByteArray, y_ = (([(⟨#[]⟩ : ByteArray), (⟨#[49]⟩ : ByteArray), (⟨#[50]⟩ : ByteArray), (⟨#[120]⟩ : ByteArray), (⟨#[118, 97, 108, 117, 101]⟩ : ByteArray), (⟨#[0]⟩ : ByteArray)] : List ByteArray)) := ⟨_, rfl⟩
 rw [← aD] at H
 have aG := Aside0.mk aD
 clear aD
 obtain ⟨⟨aL, aK, aJ⟩, A2, H⟩ := bo_ H; try dsimp only at H
 simp only [Option.some.injEq, Prod.mk.injEq] at H
 obtain ⟨rfl, rfl, rfl⟩ := H
 go_enter Try.func39, Try.ntmps39
 go_wp2_with (first | ((with_reducible refine gate_dst (N := 4) rfl ?_); refine Kd.R_lit Kd.string _ 9 ?hg (N := 4) ?hd (xs := ([(⟨#[]⟩ : ByteArray), (⟨#[49]⟩ : ByteArray), (⟨#[50]⟩ : ByteArray), (⟨#[120]⟩ : ByteArray), (⟨#[118, 97, 108, 117, 101]⟩ : ByteArray), (⟨#[0]⟩ : ByteArray)] : List ByteArray)) (inner := [.string (⟨#[]⟩ : ByteArray), .string (⟨#[49]⟩ : ByteArray), .string (⟨#[50]⟩ : ByteArray), .string (⟨#[120]⟩ : ByteArray), .string (⟨#[118, 97, 108, 117, 101]⟩ : ByteArray), .string (⟨#[0]⟩ : ByteArray)]) (ok := fun _ => True) (okp := fun _ => True) ?hr ?hp (fun _ hk => hk) trivial (Below.refl _ _) (Nat.le_refl _) (by simp) ?_; (case hd => rfl); (case hg => rfl); (case hr => first | (go_simp; done) | (go_simp; rfl)); (case hp => exact (Reps.one (show Kd.M Kd.string _ _ _ (⟨#[]⟩ : ByteArray) [.string (⟨#[]⟩ : ByteArray)] from rfl) (Reps.one (show Kd.M Kd.string _ _ _ (⟨#[49]⟩ : ByteArray) [.string (⟨#[49]⟩ : ByteArray)] from rfl) (Reps.one (show Kd.M Kd.string _ _ _ (⟨#[50]⟩ : ByteArray) [.string (⟨#[50]⟩ : ByteArray)] from rfl) (Reps.one (show Kd.M Kd.string _ _ _ (⟨#[120]⟩ : ByteArray) [.string (⟨#[120]⟩ : ByteArray)] from rfl) (Reps.one (show Kd.M Kd.string _ _ _ (⟨#[118, 97, 108, 117, 101]⟩ : ByteArray) [.string (⟨#[118, 97, 108, 117, 101]⟩ : ByteArray)] from rfl) (Reps.one (show Kd.M Kd.string _ _ _ (⟨#[0]⟩ : ByteArray) [.string (⟨#[0]⟩ : ByteArray)] from rfl) (Reps.none _ _)))))))); intro aM w3 aI hb hg_ hnew_; clear hg_ hnew_; (first | rw [← aG.out] at aI | (simp only [Int.reduceToNat] at aI; rw [← aG.out] at aI)); have aA := q_ (Kd.R_lower aI (keep_size (w := w) (g := g) (row := none) (by repeat (first | (with_reducible first | exact HK.out | apply KeepBut.set_ | apply keep_drewN | apply keep_drew | apply keep_alloc) | exact HK.out)))); replace HK := q_ (KeepBut.trans (by repeat (first | (with_reducible first | exact HK.out | apply KeepBut.set_ | apply keep_drewN | apply keep_drew | apply keep_alloc) | exact HK.out)) (KeepBut.of_below hb g none) (.inl rfl)); replace HB := q_ (below_step (bs_ HB.out (IsS61.ge aB.out)) hb); replace aB := q_ (IsS61.below (by repeat (first | (with_reducible first | exact aB.out | apply IsS61.alloc | apply IsS61.drewN | apply IsS61.drew | apply IsS61.set_1 | apply IsS61.set_2) | exact aB.out)) hb); clear hb aI; obtain ⟨aP, aO, aN⟩ := Kd.R_slice aA.out; subst aN) | ((with_reducible refine gate_callee (f := 40) rfl ?_); refine gl_ (some 5) Try.func40 #[.pointer (some ⟨g, 0, none⟩), .slice aP aH.length aO] rfl al_ ?_; (with_reducible refine (spec_l1Str.calls g aC aF aE _ _ aH aL aK aJ w0 _ ?side1 ?side2 ?side3 ?side4 ?side5 A2.out).mono ?_); (case side1 => repeat (first | (with_reducible first | exact aB.out | apply IsS61.alloc | apply IsS61.drewN | apply IsS61.drew | apply IsS61.set_1 | apply IsS61.set_2) | exact aB.out)); (case side2 => repeat (first | (with_reducible first | exact HB.out | apply below_alloc | apply pw_below_drewN | apply below_drew1 | refine below_set ?_ (IsS61.ge aB.out)) | exact HB.out)); (case side3 => exact kc_ (Kd.R_reads' aA.out).2.2); (case side4 => exact (Kd.R_reads' aA.out).2.1); (case side5 => exact far_slice (IsS61.own_ne aB.out aA.out (by decide))); rintro e w6 ⟨rfl, hi, hb, hk⟩; refine ⟨_, rfl, ?_⟩; replace aA := q_ (Kd.R_mono (Kd.R_keep (IsS61.apart (show IsS61 w0 _ g aC aF aE from by repeat (first | (with_reducible first | exact aB.out | apply IsS61.alloc | apply IsS61.drewN | apply IsS61.drew | apply IsS61.set_1 | apply IsS61.set_2) | exact aB.out)) (kr_ aA.out) (by decide)) hk (fun _ h => h.2)) (fun _ h => h.1)); replace HK := q_ (KeepBut.trans (by repeat (first | (with_reducible first | exact HK.out | apply KeepBut.set_ | apply keep_drewN | apply keep_drew | apply keep_alloc) | exact HK.out)) hk (.inl rfl)); replace HB := q_ (hb); replace aB := q_ (hi); (try clear hb); (try clear hk); (try clear hi)))
 go_ret
 exact ⟨rf_, by repeat (first | (with_reducible first | exact aB.out | apply IsS61.alloc | apply IsS61.drewN | apply IsS61.drew | apply IsS61.set_1 | apply IsS61.set_2) | exact aB.out), bs_ HB.out (IsS61.ge aB.out), by repeat (first | (with_reducible first | exact HK.out | apply KeepBut.set_ | apply keep_drewN | apply keep_drew | apply keep_alloc) | exact HK.out)⟩
def spec_l3Draw.l0 : Nat → List (S45) → Int → List Int → Int → Int → Option ((List (S45)) × Int × Int)
 | 0, _, _, _, _, _ => none
 | k + 1, x3, x4, aA, aE, aD => if x4 > 0 then ((spec_l3Key.f aA aE aD).bind fun aC => ((spec_l3Val.f aA aC.2.1 aC.2.2).bind fun aB => ((spec_PutKey.f k x3 aC.1 aB.1).bind fun aF => (spec_l3Draw.l0 k aF (wrap64 (x4 - 1)) aA aB.2.1 aB.2.2)))) else (some (x3, aE, aD))
def spec_l3Draw.f (k : Nat) (aB : List Int) (aD : Int) (aC : Int) : Option ((List (S45)) × Int × Int) := (spec_l1Below.f aB aD aC 8).bind fun aA => (spec_l3Draw.l0 k (([] : List (S45))) aA.1 aB aA.2.1 aA.2.2)
theorem spec_l3Draw.calls (k : Nat) (g : Nat) (aD : List Int) (aK : Int) (aJ : Int) (r1 : List (S45)) (r2 : Int) (r3 : Int) (w0 w : World) (hI : IsS61 w0 w g aD aK aJ) (hB : Below w0.heap.size w0 w) (h : spec_l3Draw.f k aD aK aJ = some (r1, r2, r3)) :
 Calls Try.prog 15 #[.pointer (some ⟨g, 0, none⟩)] w fun e w' => ∃ v0_ : Value, e = .returned (v0_) ∧ Kd.R k45 45 w' w.heap.size (fun _ => True) v0_ r1 ∧ IsS61 w0 w' g aD r2 r3 ∧ Below w0.heap.size w0 w' ∧ KeepBut w w' g none := by
 have aA := Aside0.mk hI
 have HK := q_ (KeepBut.refl w g none)
 have HL := Aside0.mk hB.size
 clear hI
 have bK := Aside0.mk hB.size
 have HB := Aside0.mk hB
 clear hB
 have H := h
 clear h
 unfold spec_l3Draw.f at H
 obtain ⟨aY, aH⟩ : ∃ y_ : List (S45), y_ = (([] : List (S45))) := ⟨_, rfl⟩
 rw [← aH] at H
 have aL := Aside0.mk aH
 clear aH
 obtain ⟨⟨aV, aU, aT⟩, A2, H⟩ := bo_ H; try dsimp only at H
 have H' := Aside0.mk H
 clear H
 go_enter Try.func15, Try.ntmps15
 go_wp2_with (first | ((with_reducible refine gate_dst (N := 5) rfl ?_); refine Kd.R_lit k45 _ 45 ?hg (N := 5) ?hd (xs := ([] : List (S45))) (inner := []) (ok := fun _ => True) (okp := fun _ => True) ?hr ?hp (fun _ hk => hk) trivial (Below.refl _ _) (Nat.le_refl _) (by simp) ?_; (case hd => rfl); (case hg => rfl); (case hr => first | (go_simp; done) | (go_simp; rfl)); (case hp => exact (Reps.none _ _)); intro bG w3 aW hb hg_ hnew_; clear hg_ hnew_; (first | rw [← aL.out] at aW | (simp only [Int.reduceToNat] at aW; rw [← aL.out] at aW)); have aI := q_ (Kd.R_lower aW (keep_size (w := w) (g := g) (row := none) (by repeat (first | (with_reducible first | exact HK.out | apply KeepBut.set_ | apply keep_drewN | apply keep_drew | apply keep_alloc) | exact HK.out)))); replace HK := q_ (KeepBut.trans (by repeat (first | (with_reducible first | exact HK.out | apply KeepBut.set_ | apply keep_drewN | apply keep_drew | apply keep_alloc) | exact HK.out)) (KeepBut.of_below hb g none) (.inl rfl)); replace HB := q_ (below_step (bs_ HB.out (IsS61.ge aA.out)) hb); replace aA := q_ (IsS61.below (by repeat (first | (with_reducible first | exact aA.out | apply IsS61.alloc | apply IsS61.drewN | apply IsS61.drew | apply IsS61.set_1 | apply IsS61.set_2) | exact aA.out)) hb); clear hb aW) | ((with_reducible refine gate_callee (f := 36) rfl ?_); refine gl_ (some 7) Try.func36 #[.pointer (some ⟨g, 0, none⟩), .int .i64 8] rfl al_ ?_; (with_reducible refine (spec_l1Below.calls g aD aK aJ 8 aV aU aT w0 _ ?side1 ?side2 A2.out).mono ?_); (case side1 => repeat (first | (with_reducible first | exact aA.out | apply IsS61.alloc | apply IsS61.drewN | apply IsS61.drew | apply IsS61.set_1 | apply IsS61.set_2) | exact aA.out)); (case side2 => repeat (first | (with_reducible first | exact HB.out | apply below_alloc | apply pw_below_drewN | apply below_drew1 | refine below_set ?_ (IsS61.ge aA.out)) | exact HB.out)); rintro e w5 ⟨rfl, hi, hb, hk⟩; refine ⟨_, rfl, ?_⟩; replace aI := q_ (Kd.R_mono (Kd.R_keep (IsS61.apart (show IsS61 w0 _ g aD aK aJ from by repeat (first | (with_reducible first | exact aA.out | apply IsS61.alloc | apply IsS61.drewN | apply IsS61.drew | apply IsS61.set_1 | apply IsS61.set_2) | exact aA.out)) (kr_ aI.out) (by decide)) hk (fun _ h => h.2)) (fun _ h => h.1)); replace HK := q_ (KeepBut.trans (by repeat (first | (with_reducible first | exact HK.out | apply KeepBut.set_ | apply keep_drewN | apply keep_drew | apply keep_alloc) | exact HK.out)) hk (.inl rfl)); replace HB := q_ (hb); replace aA := q_ (hi); (try clear hb); (try clear hk); (try clear hi)))
 go_loopg [3, 4] k (fun kq v3 v4 w' => ∃ (aG : List (S45)) (aF : Int) (aC : Int) (aB : Int), v4 = .int .i64 aF ∧ Aside0 (spec_l3Draw.l0 kq aG aF aD aC aB = some (r1, r2, r3)) ∧ Aside0 (kq ≤ k) ∧ Aside0 (Kd.R k45 45 w' w.heap.size (fun _ => True) v3 aG) ∧ Aside0 (IsS61 w0 w' g aD aC aB) ∧ Aside0 (KeepBut w w' g none) ∧ Aside0 (Below w0.heap.size w0 w'))
 case atStart => exact ⟨(aY), (aV), (aU), (aT), rs_, H', ⟨Nat.le_refl _⟩, ⟨kr_ aI.out⟩, ⟨by repeat (first | (with_reducible first | exact aA.out | apply IsS61.alloc | apply IsS61.drewN | apply IsS61.drew | apply IsS61.set_1 | apply IsS61.set_2) | exact aA.out)⟩, ⟨by repeat (first | (with_reducible first | exact HK.out | apply KeepBut.set_ | apply keep_drewN | apply keep_drew | apply keep_alloc) | exact HK.out)⟩, ⟨bs_ HB.out (IsS61.ge aA.out)⟩⟩
 case round =>
  clear H'
  obtain ⟨aG, aF, aC, aB, rfl, HA, bE, aE, aA, HK, HB⟩ := hrel
  cases gk with
  | zero => exact absurd HA.out (by simp [spec_l3Draw.l0])
  | succ k1 =>
   have H := HA.out
   clear HA
   simp only [spec_l3Draw.l0] at H
   by_cases c6 : aF > 0
   ·
    rw [if_pos c6] at H
    have bC : decide (0 < aF) = true := decide_eq_true c6
    clear c6
    obtain ⟨⟨aP, aO, aN⟩, A7, H⟩ := bo_ H; try dsimp only at H
    obtain ⟨⟨aM, aS, aR⟩, A8, H⟩ := bo_ H; try dsimp only at H
    obtain ⟨aQ, A9, H⟩ := bo_ H
    have H' := Aside0.mk H
    clear H
    go_wp2_with (first | ((with_reducible refine gate_callee (f := 38) rfl ?_); refine gl_ (some 14) Try.func38 #[.pointer (some ⟨g, 0, none⟩)] rfl al_ ?_; (with_reducible refine (spec_l3Key.calls g aD aC aB aP aO aN w0 _ ?side1 ?side2 A7.out).mono ?_); (case side1 => repeat (first | (with_reducible first | exact aA.out | apply IsS61.alloc | apply IsS61.drewN | apply IsS61.drew | apply IsS61.set_1 | apply IsS61.set_2) | exact aA.out)); (case side2 => repeat (first | (with_reducible first | exact HB.out | apply below_alloc | apply pw_below_drewN | apply below_drew1 | refine below_set ?_ (IsS61.ge aA.out)) | exact HB.out)); rintro e bJ ⟨rfl, hi, hb, hk⟩; refine ⟨_, rfl, ?_⟩; replace aE := q_ (Kd.R_mono (Kd.R_keep (IsS61.apart (show IsS61 w0 _ g aD aC aB from by repeat (first | (with_reducible first | exact aA.out | apply IsS61.alloc | apply IsS61.drewN | apply IsS61.drew | apply IsS61.set_1 | apply IsS61.set_2) | exact aA.out)) (kr_ aE.out) (by decide)) hk (fun _ h => h.2)) (fun _ h => h.1)); replace HK := q_ (KeepBut.trans (by repeat (first | (with_reducible first | exact HK.out | apply KeepBut.set_ | apply keep_drewN | apply keep_drew | apply keep_alloc) | exact HK.out)) hk (.inl rfl)); replace HB := q_ (hb); replace aA := q_ (hi); (try clear hb); (try clear hk); (try clear hi)) | ((with_reducible refine gate_callee (f := 39) rfl ?_); refine gl_ (some 16) Try.func39 #[.pointer (some ⟨g, 0, none⟩)] rfl al_ ?_; (with_reducible refine (spec_l3Val.calls g aD aO aN aM aS aR w0 _ ?side1 ?side2 A8.out).mono ?_); (case side1 => repeat (first | (with_reducible first | exact aA.out | apply IsS61.alloc | apply IsS61.drewN | apply IsS61.drew | apply IsS61.set_1 | apply IsS61.set_2) | exact aA.out)); (case side2 => repeat (first | (with_reducible first | exact HB.out | apply below_alloc | apply pw_below_drewN | apply below_drew1 | refine below_set ?_ (IsS61.ge aA.out)) | exact HB.out)); rintro e bI ⟨rfl, hi, hb, hk⟩; refine ⟨_, rfl, ?_⟩; replace aE := q_ (Kd.R_mono (Kd.R_keep (IsS61.apart (show IsS61 w0 _ g aD aO aN from by repeat (first | (with_reducible first | exact aA.out | apply IsS61.alloc | apply IsS61.drewN | apply IsS61.drew | apply IsS61.set_1 | apply IsS61.set_2) | exact aA.out)) (kr_ aE.out) (by decide)) hk (fun _ h => h.2)) (fun _ h => h.1)); replace HK := q_ (KeepBut.trans (by repeat (first | (with_reducible first | exact HK.out | apply KeepBut.set_ | apply keep_drewN | apply keep_drew | apply keep_alloc) | exact HK.out)) hk (.inl rfl)); replace HB := q_ (hb); replace aA := q_ (hi); (try clear hb); (try clear hk); (try clear hi); obtain ⟨bD, bB, bA⟩ := Kd.R_slice aE.out; subst bA) | ((with_reducible refine gate_callee (f := 37) rfl ?_); refine gl_ (some 17) Try.func37 #[.slice bD aG.length bB, .string aP, .string aM] rfl al_ ?_; (with_reducible refine (spec_PutKey.calls k1 _ _ aG aP aM aQ _ ?side1 ?side2 A9.out).mono ?_); (case side1 => exact kc_ (Kd.R_reads' aE.out).2.2); (case side2 => exact (Kd.R_reads' aE.out).2.1); rintro e bH ⟨bF, rfl, aZ, hb⟩; refine ⟨_, rfl, ?_⟩; have aX := q_ (Kd.R_lower (Kd.R_new' aZ (Kd.R_lt (kr_ aE.out))) (keep_size (w := w) (g := g) (row := none) (by repeat (first | (with_reducible first | exact HK.out | apply KeepBut.set_ | apply keep_drewN | apply keep_drew | apply keep_alloc) | exact HK.out)))); replace aE := q_ (Kd.R_elder' (kr_ aE.out) (Kd.R_base aZ) hb); replace HK := q_ (KeepBut.trans (by repeat (first | (with_reducible first | exact HK.out | apply KeepBut.set_ | apply keep_drewN | apply keep_drew | apply keep_alloc) | exact HK.out)) (KeepBut.of_below hb g none) (.inl rfl)); replace HB := q_ (below_step (bs_ HB.out (IsS61.ge aA.out)) hb); replace aA := q_ (IsS61.below (by repeat (first | (with_reducible first | exact aA.out | apply IsS61.alloc | apply IsS61.drewN | apply IsS61.drew | apply IsS61.set_1 | apply IsS61.set_2) | exact aA.out)) hb); (try clear hb); (try clear aZ)))
    go_roundg k1
    case measure => have := bE.out; omega
    case rel => exact ⟨(aQ), (wrap64 (aF - 1)), (aS), (aR), rs_, H', ⟨by have := bE.out; omega⟩, ⟨by (with_reducible repeat (first | apply Kd.R_alloc | apply Kd.R_drewN | apply Kd.R_drew)); exact Kd.R_mono aX.out (fun _ hk => trivial)⟩, ⟨by repeat (first | (with_reducible first | exact aA.out | apply IsS61.alloc | apply IsS61.drewN | apply IsS61.drew | apply IsS61.set_1 | apply IsS61.set_2) | exact aA.out)⟩, ⟨by repeat (first | (with_reducible first | exact HK.out | apply KeepBut.set_ | apply keep_drewN | apply keep_drew | apply keep_alloc) | exact HK.out)⟩, ⟨bs_ HB.out (IsS61.ge aA.out)⟩⟩
   ·
    rw [if_neg c6] at H
    have bC : decide (0 < aF) = false := decide_eq_false c6
    clear c6
    simp only [Option.some.injEq, Prod.mk.injEq] at H
    obtain ⟨rfl, rfl, rfl⟩ := H
    go_wp2
    go_ret
    exact ⟨_, rf_, kr_ aE.out, by repeat (first | (with_reducible first | exact aA.out | apply IsS61.alloc | apply IsS61.drewN | apply IsS61.drew | apply IsS61.set_1 | apply IsS61.set_2) | exact aA.out), bs_ HB.out (IsS61.ge aA.out), by repeat (first | (with_reducible first | exact HK.out | apply KeepBut.set_ | apply keep_drewN | apply keep_drew | apply keep_alloc) | exact HK.out)⟩
def spec_l3Ends.f (aC : List Int) (aE : Int) (aD : Int) : Option (ByteArray × ByteArray × Int × Int) := (spec_l1Str.f aC aE aD (([(⟨#[]⟩ : ByteArray), (⟨#[]⟩ : ByteArray), (⟨#[98]⟩ : ByteArray), (⟨#[107]⟩ : ByteArray), (⟨#[107, 50]⟩ : ByteArray), (⟨#[122, 122]⟩ : ByteArray)] : List ByteArray))).bind fun aB => ((spec_l1Str.f aC aB.2.1 aB.2.2 (([(⟨#[]⟩ : ByteArray), (⟨#[]⟩ : ByteArray), (⟨#[99]⟩ : ByteArray), (⟨#[107, 50]⟩ : ByteArray), (⟨#[108]⟩ : ByteArray), (⟨#[97]⟩ : ByteArray)] : List ByteArray))).bind fun aA => (some (aB.1, aA.1, aA.2.1, aA.2.2)))
theorem spec_l3Ends.calls (g : Nat) (aD : List Int) (aJ : Int) (aI : Int) (r1 : ByteArray) (r2 : ByteArray) (r3 : Int) (r4 : Int) (w0 w : World) (hI : IsS61 w0 w g aD aJ aI) (hB : Below w0.heap.size w0 w) (h : spec_l3Ends.f aD aJ aI = some (r1, r2, r3, r4)) :
 Calls Try.prog 16 #[.pointer (some ⟨g, 0, none⟩)] w fun e w' => e = .returned (.tuple #[.string r1, .string r2]) ∧ IsS61 w0 w' g aD r3 r4 ∧ Below w0.heap.size w0 w' ∧ KeepBut w w' g none := by
 have aB := Aside0.mk hI
 have HK := q_ (KeepBut.refl w g none)
 have HL := Aside0.mk hB.size
 clear hI
 have bD := Aside0.mk hB.size
 have HB := Aside0.mk hB
 clear hB
 have H := h
 clear h
 unfold spec_l3Ends.f at H
 obtain ⟨aO, aF⟩ : ∃ y_ : List ByteArray, y_ = (([(⟨#[]⟩ : ByteArray), (⟨#[]⟩ : ByteArray), (⟨#[98]⟩ : ByteArray), (⟨#[107]⟩ : ByteArray), (⟨#[107, 50]⟩ : ByteArray), (⟨#[122, 122]⟩ : ByteArray)] : List ByteArray)) := ⟨_, rfl⟩
 rw [← aF] at H
 have aL := Aside0.mk aF
 clear aF
 obtain ⟨⟨aT, aH, aG⟩, A2, H⟩ := bo_ H; try dsimp only at H
 obtain ⟨aN, aE⟩ : ∃ y_ : List ByteArray, y_ = (([(⟨#[]⟩ : ByteArray), (⟨#[]⟩ : ByteArray), (⟨#[99]⟩ : ByteArray), (⟨#[107, 50]⟩ : ByteArray), (⟨#[108]⟩ : ByteArray), (⟨#[97]⟩ : ByteArray)] : List ByteArray)) := ⟨_, rfl⟩
 rw [← aE] at H
 have aK := Aside0.mk aE
 clear aE
 obtain ⟨⟨aS, aR, aQ⟩, A3, H⟩ := bo_ H; try dsimp only at H
 simp only [Option.some.injEq, Prod.mk.injEq] at H
 obtain ⟨rfl, rfl, rfl, rfl⟩ := H
 go_enter Try.func16, Try.ntmps16
 go_wp2_with (first | ((with_reducible refine gate_dst (N := 5) rfl ?_); refine Kd.R_lit Kd.string _ 9 ?hg (N := 5) ?hd (xs := ([(⟨#[]⟩ : ByteArray), (⟨#[]⟩ : ByteArray), (⟨#[98]⟩ : ByteArray), (⟨#[107]⟩ : ByteArray), (⟨#[107, 50]⟩ : ByteArray), (⟨#[122, 122]⟩ : ByteArray)] : List ByteArray)) (inner := [.string (⟨#[]⟩ : ByteArray), .string (⟨#[]⟩ : ByteArray), .string (⟨#[98]⟩ : ByteArray), .string (⟨#[107]⟩ : ByteArray), .string (⟨#[107, 50]⟩ : ByteArray), .string (⟨#[122, 122]⟩ : ByteArray)]) (ok := fun _ => True) (okp := fun _ => True) ?hr ?hp (fun _ hk => hk) trivial (Below.refl _ _) (Nat.le_refl _) (by simp) ?_; (case hd => rfl); (case hg => rfl); (case hr => first | (go_simp; done) | (go_simp; rfl)); (case hp => exact (Reps.one (show Kd.M Kd.string _ _ _ (⟨#[]⟩ : ByteArray) [.string (⟨#[]⟩ : ByteArray)] from rfl) (Reps.one (show Kd.M Kd.string _ _ _ (⟨#[]⟩ : ByteArray) [.string (⟨#[]⟩ : ByteArray)] from rfl) (Reps.one (show Kd.M Kd.string _ _ _ (⟨#[98]⟩ : ByteArray) [.string (⟨#[98]⟩ : ByteArray)] from rfl) (Reps.one (show Kd.M Kd.string _ _ _ (⟨#[107]⟩ : ByteArray) [.string (⟨#[107]⟩ : ByteArray)] from rfl) (Reps.one (show Kd.M Kd.string _ _ _ (⟨#[107, 50]⟩ : ByteArray) [.string (⟨#[107, 50]⟩ : ByteArray)] from rfl) (Reps.one (show Kd.M Kd.string _ _ _ (⟨#[122, 122]⟩ : ByteArray) [.string (⟨#[122, 122]⟩ : ByteArray)] from rfl) (Reps.none _ _)))))))); intro aY w4 aP hb hg_ hnew_; clear hg_ hnew_; (first | rw [← aL.out] at aP | (simp only [Int.reduceToNat] at aP; rw [← aL.out] at aP)); have aA := q_ (Kd.R_lower aP (keep_size (w := w) (g := g) (row := none) (by repeat (first | (with_reducible first | exact HK.out | apply KeepBut.set_ | apply keep_drewN | apply keep_drew | apply keep_alloc) | exact HK.out)))); replace HK := q_ (KeepBut.trans (by repeat (first | (with_reducible first | exact HK.out | apply KeepBut.set_ | apply keep_drewN | apply keep_drew | apply keep_alloc) | exact HK.out)) (KeepBut.of_below hb g none) (.inl rfl)); replace HB := q_ (below_step (bs_ HB.out (IsS61.ge aB.out)) hb); replace aB := q_ (IsS61.below (by repeat (first | (with_reducible first | exact aB.out | apply IsS61.alloc | apply IsS61.drewN | apply IsS61.drew | apply IsS61.set_1 | apply IsS61.set_2) | exact aB.out)) hb); clear hb aP; obtain ⟨bB, bA, aZ⟩ := Kd.R_slice aA.out; subst aZ) | ((with_reducible refine gate_callee (f := 40) rfl ?_); refine gl_ (some 6) Try.func40 #[.pointer (some ⟨g, 0, none⟩), .slice bB aO.length bA] rfl al_ ?_; (with_reducible refine (spec_l1Str.calls g aD aJ aI _ _ aO aT aH aG w0 _ ?side1 ?side2 ?side3 ?side4 ?side5 A2.out).mono ?_); (case side1 => repeat (first | (with_reducible first | exact aB.out | apply IsS61.alloc | apply IsS61.drewN | apply IsS61.drew | apply IsS61.set_1 | apply IsS61.set_2) | exact aB.out)); (case side2 => repeat (first | (with_reducible first | exact HB.out | apply below_alloc | apply pw_below_drewN | apply below_drew1 | refine below_set ?_ (IsS61.ge aB.out)) | exact HB.out)); (case side3 => exact kc_ (Kd.R_reads' aA.out).2.2); (case side4 => exact (Kd.R_reads' aA.out).2.1); (case side5 => exact far_slice (IsS61.own_ne aB.out aA.out (by decide))); rintro e w7 ⟨rfl, hi, hb, hk⟩; refine ⟨_, rfl, ?_⟩; replace aA := q_ (Kd.R_mono (Kd.R_keep (IsS61.apart (show IsS61 w0 _ g aD aJ aI from by repeat (first | (with_reducible first | exact aB.out | apply IsS61.alloc | apply IsS61.drewN | apply IsS61.drew | apply IsS61.set_1 | apply IsS61.set_2) | exact aB.out)) (kr_ aA.out) (by decide)) hk (fun _ h => h.2)) (fun _ h => h.1)); replace HK := q_ (KeepBut.trans (by repeat (first | (with_reducible first | exact HK.out | apply KeepBut.set_ | apply keep_drewN | apply keep_drew | apply keep_alloc) | exact HK.out)) hk (.inl rfl)); replace HB := q_ (hb); replace aB := q_ (hi); (try clear hb); (try clear hk); (try clear hi)) | ((with_reducible refine gate_dst (N := 8) rfl ?_); refine Kd.R_lit Kd.string _ 9 ?hg (N := 8) ?hd (xs := ([(⟨#[]⟩ : ByteArray), (⟨#[]⟩ : ByteArray), (⟨#[99]⟩ : ByteArray), (⟨#[107, 50]⟩ : ByteArray), (⟨#[108]⟩ : ByteArray), (⟨#[97]⟩ : ByteArray)] : List ByteArray)) (inner := [.string (⟨#[]⟩ : ByteArray), .string (⟨#[]⟩ : ByteArray), .string (⟨#[99]⟩ : ByteArray), .string (⟨#[107, 50]⟩ : ByteArray), .string (⟨#[108]⟩ : ByteArray), .string (⟨#[97]⟩ : ByteArray)]) (ok := fun _ => True) (okp := fun _ => True) ?hr ?hp (fun _ hk => hk) trivial (Below.refl _ _) (Nat.le_refl _) (by simp) ?_; (case hd => rfl); (case hg => rfl); (case hr => first | (go_simp; done) | (go_simp; rfl)); (case hp => exact (Reps.one (show Kd.M Kd.string _ _ _ (⟨#[]⟩ : ByteArray) [.string (⟨#[]⟩ : ByteArray)] from rfl) (Reps.one (show Kd.M Kd.string _ _ _ (⟨#[]⟩ : ByteArray) [.string (⟨#[]⟩ : ByteArray)] from rfl) (Reps.one (show Kd.M Kd.string _ _ _ (⟨#[99]⟩ : ByteArray) [.string (⟨#[99]⟩ : ByteArray)] from rfl) (Reps.one (show Kd.M Kd.string _ _ _ (⟨#[107, 50]⟩ : ByteArray) [.string (⟨#[107, 50]⟩ : ByteArray)] from rfl) (Reps.one (show Kd.M Kd.string _ _ _ (⟨#[108]⟩ : ByteArray) [.string (⟨#[108]⟩ : ByteArray)] from rfl) (Reps.one (show Kd.M Kd.string _ _ _ (⟨#[97]⟩ : ByteArray) [.string (⟨#[97]⟩ : ByteArray)] from rfl) (Reps.none _ _)))))))); intro aX w8 aM hb hg_ hnew_; clear hg_ hnew_; (first | rw [← aK.out] at aM | (simp only [Int.reduceToNat] at aM; rw [← aK.out] at aM)); have aC := q_ (Kd.R_lower (Kd.R_new' aM (Kd.R_lt (kr_ aA.out))) (keep_size (w := w) (g := g) (row := none) (by repeat (first | (with_reducible first | exact HK.out | apply KeepBut.set_ | apply keep_drewN | apply keep_drew | apply keep_alloc) | exact HK.out)))); replace aA := q_ (Kd.R_elder' (kr_ aA.out) (Kd.R_base aM) hb); replace HK := q_ (KeepBut.trans (by repeat (first | (with_reducible first | exact HK.out | apply KeepBut.set_ | apply keep_drewN | apply keep_drew | apply keep_alloc) | exact HK.out)) (KeepBut.of_below hb g none) (.inl rfl)); replace HB := q_ (below_step (bs_ HB.out (IsS61.ge aB.out)) hb); replace aB := q_ (IsS61.below (by repeat (first | (with_reducible first | exact aB.out | apply IsS61.alloc | apply IsS61.drewN | apply IsS61.drew | apply IsS61.set_1 | apply IsS61.set_2) | exact aB.out)) hb); clear hb aM; obtain ⟨aW, aV, aU⟩ := Kd.R_slice aC.out; subst aU) | ((with_reducible refine gate_callee (f := 40) rfl ?_); refine gl_ (some 9) Try.func40 #[.pointer (some ⟨g, 0, none⟩), .slice aW aN.length aV] rfl al_ ?_; (with_reducible refine (spec_l1Str.calls g aD aH aG _ _ aN aS aR aQ w0 _ ?side1 ?side2 ?side3 ?side4 ?side5 A3.out).mono ?_); (case side1 => repeat (first | (with_reducible first | exact aB.out | apply IsS61.alloc | apply IsS61.drewN | apply IsS61.drew | apply IsS61.set_1 | apply IsS61.set_2) | exact aB.out)); (case side2 => repeat (first | (with_reducible first | exact HB.out | apply below_alloc | apply pw_below_drewN | apply below_drew1 | refine below_set ?_ (IsS61.ge aB.out)) | exact HB.out)); (case side3 => exact kc_ (Kd.R_reads' aC.out).2.2); (case side4 => exact (Kd.R_reads' aC.out).2.1); (case side5 => exact far_slice (IsS61.own_ne aB.out aC.out (by decide))); rintro e bC ⟨rfl, hi, hb, hk⟩; refine ⟨_, rfl, ?_⟩; replace aA := q_ (Kd.R_mono (Kd.R_keep (IsS61.apart (show IsS61 w0 _ g aD aH aG from by repeat (first | (with_reducible first | exact aB.out | apply IsS61.alloc | apply IsS61.drewN | apply IsS61.drew | apply IsS61.set_1 | apply IsS61.set_2) | exact aB.out)) (kr_ aA.out) (by decide)) hk (fun _ h => h.2)) (fun _ h => h.1)); replace aC := q_ (Kd.R_mono (Kd.R_keep (IsS61.apart (show IsS61 w0 _ g aD aH aG from by repeat (first | (with_reducible first | exact aB.out | apply IsS61.alloc | apply IsS61.drewN | apply IsS61.drew | apply IsS61.set_1 | apply IsS61.set_2) | exact aB.out)) (kr_ aC.out) (by decide)) hk (fun _ h => h.2)) (fun _ h => h.1)); replace HK := q_ (KeepBut.trans (by repeat (first | (with_reducible first | exact HK.out | apply KeepBut.set_ | apply keep_drewN | apply keep_drew | apply keep_alloc) | exact HK.out)) hk (.inl rfl)); replace HB := q_ (hb); replace aB := q_ (hi); (try clear hb); (try clear hk); (try clear hi)))
 go_ret2
 exact ⟨rf_, by repeat (first | (with_reducible first | exact aB.out | apply IsS61.alloc | apply IsS61.drewN | apply IsS61.drew | apply IsS61.set_1 | apply IsS61.set_2) | exact aB.out), bs_ HB.out (IsS61.ge aB.out), by repeat (first | (with_reducible first | exact HK.out | apply KeepBut.set_ | apply keep_drewN | apply keep_drew | apply keep_alloc) | exact HK.out)⟩
def spec_l3In.f (a0 : ByteArray) (a1 : ByteArray) (a2 : ByteArray) : Option (Bool) := if ((Op.bytesLess a0.toList a1.toList) = true) then (some false) else (if a2.toList = ([] : List UInt8) then (some true) else (some (Op.bytesLess a0.toList a2.toList)))
theorem spec_l3In.calls (a0 : ByteArray) (a1 : ByteArray) (a2 : ByteArray) (r : Bool) (w : World) (h : spec_l3In.f a0 a1 a2 = some r) :
 Calls Try.prog 30 #[.string a0, .string a1, .string a2] w fun e w' => e = .returned (.bool r) ∧ Drawn0 w w' := by
 have H := h
 clear h
 unfold spec_l3In.f at H
 by_cases c4 : ((Op.bytesLess a0.toList a1.toList) = true)
 ·
  rw [if_pos c4] at H
  have aC : (Op.bytesLess a0.toList a1.toList) = true := c4
  clear c4
  obtain rfl := Option.some.inj H
  go_enter Try.func30, Try.ntmps30
  go_wp2
  go_ret
  exact ⟨rs_, by repeat (first | exact Drawn0.refl _ | apply Drawn0.step)⟩
 ·
  rw [if_neg c4] at H
  have aC : (Op.bytesLess a0.toList a1.toList) = false := by simpa using c4
  clear c4
  by_cases c5 : a2.toList = ([] : List UInt8)
  ·
   rw [if_pos c5] at H
   have aB := beq_iff_eq.mpr c5
   have aA := bne_eq_false_iff_eq.mpr c5
   clear c5
   obtain rfl := Option.some.inj H
   go_enter Try.func30, Try.ntmps30
   go_wp2
   go_ret
   exact ⟨rs_, by repeat (first | exact Drawn0.refl _ | apply Drawn0.step)⟩
  ·
   rw [if_neg c5] at H
   have aB := beq_eq_false_iff_ne.mpr c5
   have aA := bne_iff_ne.mpr c5
   obtain rfl := Option.some.inj H
   go_enter Try.func30, Try.ntmps30
   go_wp2
   go_ret
   exact ⟨rs_, by repeat (first | exact Drawn0.refl _ | apply Drawn0.step)⟩
def spec_l1In.f (a0 : Int) (a1 : Int) (a2 : Int) : Option (Bool) := if a0 ≥ a1 then (some (decide (a0 ≤ a2))) else (some false)
theorem spec_l1In.calls (a0 : Int) (a1 : Int) (a2 : Int) (r : Bool) (w : World) (h : spec_l1In.f a0 a1 a2 = some r) :
 Calls Try.prog 28 #[.int .i64 a0, .int .i64 a1, .int .i64 a2] w fun e w' => e = .returned (.bool r) ∧ Drawn0 w w' := by
 have H := h
 clear h
 unfold spec_l1In.f at H
 by_cases c4 : a0 ≥ a1
 ·
  rw [if_pos c4] at H
  have aA : decide (a1 ≤ a0) = true := decide_eq_true c4
  clear c4
  obtain rfl := Option.some.inj H
  go_enter Try.func28, Try.ntmps28
  go_wp2
  go_ret
  exact ⟨rs_, by repeat (first | exact Drawn0.refl _ | apply Drawn0.step)⟩
 ·
  rw [if_neg c4] at H
  have aA : decide (a1 ≤ a0) = false := decide_eq_false c4
  clear c4
  obtain rfl := Option.some.inj H
  go_enter Try.func28, Try.ntmps28
  go_wp2
  go_ret
  exact ⟨rs_, by repeat (first | exact Drawn0.refl _ | apply Drawn0.step)⟩
def spec_KeyOk.l0 : Nat → ByteArray → Int → Option (Bool)
 | 0, _, _ => none
 | k + 1, x0, x3 => if x3 < (x0.size : Int) then (if 0 ≤ x3 then ((spec_l1In.f (wrap64 (bt x0 x3)) 97 122).bind fun aB => (if aB = true then (spec_KeyOk.l0 k x0 (wrap64 (x3 + 1))) else ((spec_l1In.f (wrap64 (bt x0 x3)) 48 57).bind fun aA => (if aA = true then (spec_KeyOk.l0 k x0 (wrap64 (x3 + 1))) else (some false))))) else (none)) else ((spec_l1In.f (x0.size : Int) 1 12).bind fun aC => (some aC))
def spec_KeyOk.f (k : Nat) (a0 : ByteArray) : Option (Bool) := spec_KeyOk.l0 k a0 0
theorem spec_KeyOk.calls (k : Nat) (a0 : ByteArray) (r : Bool) (w : World) (h : spec_KeyOk.f k a0 = some r) :
 Calls Try.prog 76 #[.string a0] w fun e w' => e = .returned (.bool r) ∧ Drawn0 w w' := by
 have H := h
 clear h
 unfold spec_KeyOk.f at H
 have H' := Aside0.mk H
 clear H
 go_enter Try.func76, Try.ntmps76
 go_wp2
 go_loopg [3] k (fun kq v3 w' => ∃ (aA : Int), v3 = .int .i64 aA ∧ Aside0 (spec_KeyOk.l0 kq a0 aA = some r) ∧ Aside0 (kq ≤ k) ∧ Drawn0 w w')
 case atStart => exact ⟨(0), rs_, H', ⟨Nat.le_refl _⟩, by repeat (first | exact Drawn0.refl _ | apply Drawn0.step)⟩
 case round =>
  clear H'
  obtain ⟨aA, rfl, HA, aB, ⟨m1, rfl⟩⟩ := hrel
  cases gk with
  | zero => exact absurd HA.out (by simp [spec_KeyOk.l0])
  | succ k1 =>
   have H := HA.out
   clear HA
   simp only [spec_KeyOk.l0] at H
   by_cases c2 : aA < (a0.size : Int)
   ·
    rw [if_pos c2] at H
    have aF := decide_eq_true c2
    clear c2
    obtain ⟨aI, H⟩ := id_ H
    obtain ⟨aD, A5, H⟩ := bo_ H
    by_cases c6 : aD = true
    ·
     subst c6
     rw [if_pos rfl] at H
     have H' := Aside0.mk H
     clear H
     have p4 : 0 ≤ (aA : Int) := od_
     have q4 : aA < (a0.size : Int) := od_
     have aG := bt_at a0 aA
     replace p4 := eq_true p4
     replace q4 := eq_true q4
     go_wp2_with (first | ((with_reducible refine gate_callee (f := 28) rfl ?_); refine gl_ (some 14) Try.func28 #[.int .i64 (wrap64 (bt a0 aA)), .int .i64 97, .int .i64 122] rfl al_ ?_; (with_reducible refine (spec_l1In.calls (wrap64 (bt a0 aA)) 97 122 true _ A5.out).mono ?_); rintro e w' ⟨rfl, ⟨nd, rfl⟩⟩; refine ⟨_, rfl, ?_⟩))
     go_roundg k1
     case measure => have := aB.out; omega
     case rel => exact ⟨(wrap64 (aA + 1)), rs_, H', ⟨by have := aB.out; omega⟩, by repeat (first | exact Drawn0.refl _ | apply Drawn0.step)⟩
    replace c6 := Bool.eq_false_iff.mpr c6
    subst c6
    rw [if_neg (show ¬ (false = true) by decide)] at H
    obtain ⟨aC, A8, H⟩ := bo_ H
    by_cases c9 : aC = true
    rotate_left
    ·
     replace c9 := Bool.eq_false_iff.mpr c9
     subst c9
     rw [if_neg (show ¬ (false = true) by decide)] at H
     obtain rfl := Option.some.inj H
     have p4 : 0 ≤ (aA : Int) := od_
     have q4 : aA < (a0.size : Int) := od_
     have aG := bt_at a0 aA
     replace p4 := eq_true p4
     replace q4 := eq_true q4
     go_wp2_with (first | ((with_reducible refine gate_callee (f := 28) rfl ?_); refine gl_ (some 14) Try.func28 #[.int .i64 (wrap64 (bt a0 aA)), .int .i64 97, .int .i64 122] rfl al_ ?_; (with_reducible refine (spec_l1In.calls (wrap64 (bt a0 aA)) 97 122 false _ A5.out).mono ?_); rintro e w' ⟨rfl, ⟨nd, rfl⟩⟩; refine ⟨_, rfl, ?_⟩; have p7 : 0 ≤ (aA : Int) := od_; have q7 : aA < (a0.size : Int) := od_; have aH := bt_at a0 aA; replace p7 := eq_true p7; replace q7 := eq_true q7) | (go_at_call 28; (with_reducible refine (spec_l1In.calls (wrap64 (bt a0 aA)) 48 57 false _ A8.out).mono ?_); rintro e w' ⟨rfl, ⟨nd, rfl⟩⟩))
     go_ret
     exact ⟨rs_, by repeat (first | exact Drawn0.refl _ | apply Drawn0.step)⟩
    subst c9
    rw [if_pos rfl] at H
    have H' := Aside0.mk H
    clear H
    have p4 : 0 ≤ (aA : Int) := od_
    have q4 : aA < (a0.size : Int) := od_
    have aG := bt_at a0 aA
    replace p4 := eq_true p4
    replace q4 := eq_true q4
    go_wp2_with (first | ((with_reducible refine gate_callee (f := 28) rfl ?_); refine gl_ (some 14) Try.func28 #[.int .i64 (wrap64 (bt a0 aA)), .int .i64 97, .int .i64 122] rfl al_ ?_; (with_reducible refine (spec_l1In.calls (wrap64 (bt a0 aA)) 97 122 false _ A5.out).mono ?_); rintro e w' ⟨rfl, ⟨nd, rfl⟩⟩; refine ⟨_, rfl, ?_⟩; have p7 : 0 ≤ (aA : Int) := od_; have q7 : aA < (a0.size : Int) := od_; have aH := bt_at a0 aA; replace p7 := eq_true p7; replace q7 := eq_true q7) | (go_at_call 28; (with_reducible refine (spec_l1In.calls (wrap64 (bt a0 aA)) 48 57 true _ A8.out).mono ?_); rintro e w' ⟨rfl, ⟨nd, rfl⟩⟩))
    go_roundg k1
    case measure => have := aB.out; omega
    case rel => exact ⟨(wrap64 (aA + 1)), rs_, H', ⟨by have := aB.out; omega⟩, by repeat (first | exact Drawn0.refl _ | apply Drawn0.step)⟩
   ·
    rw [if_neg c2] at H
    have aF := decide_eq_false c2
    clear c2
    obtain ⟨aE, aJ, H⟩ := bo_ H
    obtain rfl := Option.some.inj H
    go_wp2_with (first | ((with_reducible refine gate_callee (f := 28) rfl ?_); refine gl_ (some 26) Try.func28 #[.int .i64 (a0.size : Int), .int .i64 1, .int .i64 12] rfl al_ ?_; (with_reducible refine (spec_l1In.calls (a0.size : Int) 1 12 aE _ aJ.out).mono ?_); rintro e w' ⟨rfl, ⟨nd, rfl⟩⟩; refine ⟨_, rfl, ?_⟩))
    go_ret
    exact ⟨rs_, by repeat (first | exact Drawn0.refl _ | apply Drawn0.step)⟩
def spec_PairOk.f (k : Nat) (aC : ByteArray) (aB : ByteArray) : Option (Bool) := (spec_KeyOk.f k aC).bind fun aA => (if aA = true then (some (decide ((aB.size : Int) ≤ 20))) else (some false))
theorem spec_PairOk.calls (k : Nat) (aA : ByteArray) (aD : ByteArray) (r : Bool) (w : World) (h : spec_PairOk.f k aA aD = some r) :
 Calls Try.prog 54 #[.agg #[.string aA, .string aD]] w fun e w' => e = .returned (.bool r) ∧ Below w.heap.size w w' := by
 have aO := Try.underlying45
 have HB := q_ (Below.refl w.heap.size w)
 have H := h
 clear h
 unfold spec_PairOk.f at H
 obtain ⟨aF, A2, H⟩ := bo_ H
 by_cases c3 : aF = true
 ·
  subst c3
  rw [if_pos rfl] at H
  obtain rfl := Option.some.inj H
  go_enter Try.func54, Try.ntmps54
  go_wp2_with (first | ((with_reducible refine gate_dst (N := 1) rfl ?_); (try (refine gate_guard (by rfl) ?_; dsimp only)); refine box_event rfl (N := 1) rfl (cs := #[.string aA, .string aD]) (t := 45) hr_ ?_; intro aE hg w4 hbox hb; have aC := q_ (hbox); have aB := ge_ hg (be_ HB.out); replace HB := q_ (below_step (be_ HB.out) hb); clear hb hbox hg; obtain ⟨aN, aM, aJ, aI⟩ := bx2_ aC.out) | ((with_reducible refine gate_callee (f := 76) rfl ?_); refine gl_ (some 5) Try.func76 #[.string aA] rfl al_ ?_; (with_reducible refine (spec_KeyOk.calls k aA true _ A2.out).mono ?_); rintro e w' ⟨rfl, ⟨nd, rfl⟩⟩; refine ⟨_, rfl, ?_⟩))
  go_ret
  exact ⟨rf_, bs_ HB.out aB.out⟩
 ·
  replace c3 := Bool.eq_false_iff.mpr c3
  subst c3
  rw [if_neg (show ¬ (false = true) by decide)] at H
  obtain rfl := Option.some.inj H
  go_enter Try.func54, Try.ntmps54
  go_wp2_with (first | ((with_reducible refine gate_dst (N := 1) rfl ?_); (try (refine gate_guard (by rfl) ?_; dsimp only)); refine box_event rfl (N := 1) rfl (cs := #[.string aA, .string aD]) (t := 45) hr_ ?_; intro aE hg w6 hbox hb; have aC := q_ (hbox); have aB := ge_ hg (be_ HB.out); replace HB := q_ (below_step (be_ HB.out) hb); clear hb hbox hg; obtain ⟨aL, aK, aH, aG⟩ := bx2_ aC.out) | ((with_reducible refine gate_callee (f := 76) rfl ?_); refine gl_ (some 5) Try.func76 #[.string aA] rfl al_ ?_; (with_reducible refine (spec_KeyOk.calls k aA false _ A2.out).mono ?_); rintro e w' ⟨rfl, ⟨nd, rfl⟩⟩; refine ⟨_, rfl, ?_⟩))
  go_ret
  exact ⟨rf_, bs_ HB.out aB.out⟩
end
end Go.Proofs.Ytgmfhchhbidlnaa.P