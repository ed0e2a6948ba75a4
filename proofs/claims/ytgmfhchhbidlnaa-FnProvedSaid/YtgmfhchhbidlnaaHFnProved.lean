import Derived.Test.YtgmfhchhbidlnaaPureHFnProved
/- FnProved: what is checked against the root of drawn pairs is just what is between, or there is a clash; an honest proof is always taken. No condition. -/
import Derived.Test.YtgmfhchhbidlnaaLawFnProved
import Derived.Test.YtgmfhchhbidlnaaPx0
import Derived.Test.YtgmfhchhbidlnaaPx15
import Derived.Test.YtgmfhchhbidlnaaPx18
import Derived.Test.YtgmfhchhbidlnaaPx1
import Derived.Test.YtgmfhchhbidlnaaPx20
import Derived.Test.YtgmfhchhbidlnaaPx21
namespace Go.Proofs.Ytgmfhchhbidlnaa.fnProved
open Go.RowKit Go.Proofs.YtgmfhchhbidlnaaW.PrintWords Go.Proofs.YtgmfhchhbidlnaaW.PrintLast Go.Proofs.YtgmfhchhbidlnaaW.PrintMore Go.Proofs.Ytgmfhchhbidlnaa.P
set_option linter.unusedVariables false
set_option linter.unusedSimpArgs false
theorem itm_get (its : List S52) {j : Nat} (h : j < its.length) : itm its (j : Int) = its[j] := rd_52_nat its j h
/-- Own items, that reach both ends: what is between of them is what is between of all. -/
theorem own_filter {l : List S45} (hok : pokM l l.length 0 = true) (lo hi : ByteArray) (F : Nat) (its : List S52) (hl : 0 < its.length)
    (hown : ∀ j, j < its.length → F + j < l.length ∧ pof (itm its (j : Int)) = rd_T45 l ((F + j : Nat) : Int)) (hr : reachB lo hi (l.length : Int) (F : Int) its = true) :
    (its.map pof).filter (btwB lo hi) = l.filter (btwB lo hi) := by
  have hpw := pokM_pairwise l hok
  have less : ∀ i j (hi : i < l.length) (hj : j < l.length), i < j → Op.bytesLess l[i].f0.toList l[j].f0.toList = true := fun i j hi hj hij => List.pairwise_iff_getElem.1 hpw i j hi hj hij
  have hend : F + its.length ≤ l.length := by have := (hown (its.length - 1) (by omega)).1; omega
  have hkey : ∀ j (hj : j < its.length), (itm its (j : Int)).f0.f0 = (l[F + j]'(hown j hj).1).f0 := fun j hj => by
    have h1 := (hown j hj).2
    rw [rdP_get l (hown j hj).1] at h1
    exact congrArg (fun p : S45 => p.f0) h1
  have e : its.map pof = (l.drop F).take its.length := by
    refine List.ext_getElem (by rw [List.length_map, List.length_take, List.length_drop]; omega) (fun j h1 h2 => ?_)
    rw [List.length_map] at h1
    rw [List.getElem_map, List.getElem_take, List.getElem_drop, ← itm_get its h1, (hown j h1).2, rdP_get l (hown j h1).1]
  have e2 : l = l.take F ++ ((l.drop F).take its.length ++ l.drop (F + its.length)) := by
    have e1 : l.drop (F + its.length) = (l.drop F).drop its.length := by rw [List.drop_drop]
    rw [e1, List.take_append_drop, List.take_append_drop]
  unfold reachB at hr
  have f1 : (l.take F).filter (btwB lo hi) = [] := by
    rw [List.filter_eq_nil_iff]
    intro x hx
    obtain ⟨j, hj, rfl⟩ := List.getElem_of_mem hx
    rw [List.length_take] at hj
    rw [List.getElem_take]
    have h0 : Op.bytesLess (itm its ((0 : Nat) : Int)).f0.f0.toList lo.toList = true := by
      by_cases c : ((F : Int) = 0 ∨ Op.bytesLess (itm its 0).f0.f0.toList lo.toList = true)
      · rcases c with c | c
        · omega
        · exact c
      · rw [if_neg c] at hr; cases hr
    rw [hkey 0 hl] at h0
    have h1 := less_trans (less j (F + 0) (by omega) (hown 0 hl).1 (by omega)) h0
    unfold btwB
    rw [h1]
    simp
  have f3 : (l.drop (F + its.length)).filter (btwB lo hi) = [] := by
    rw [List.filter_eq_nil_iff]
    intro x hx
    obtain ⟨j, hj, rfl⟩ := List.getElem_of_mem hx
    rw [List.length_drop] at hj
    rw [List.getElem_drop]
    by_cases c : ((F : Int) = 0 ∨ Op.bytesLess (itm its 0).f0.f0.toList lo.toList = true)
    · rw [if_pos c, if_neg (by omega)] at hr
      by_cases c2 : hi.toList = ([] : List UInt8)
      · rw [if_pos c2] at hr; cases hr
      · rw [if_neg c2, show ((its.length : Int) - 1) = ((its.length - 1 : Nat) : Int) by omega, hkey (its.length - 1) (by omega)] at hr
        have h2 : Op.bytesLess (l[F + its.length + j]'(by omega)).f0.toList hi.toList = false := by
          cases hc : Op.bytesLess (l[F + its.length + j]'(by omega)).f0.toList hi.toList with
          | false => rfl
          | true =>
            have := less_trans (less (F + (its.length - 1)) (F + its.length + j) (by omega) (by omega) (by omega)) hc
            rw [this] at hr
            cases hr
        unfold btwB
        rw [h2, Bool.or_false, decide_eq_false c2, Bool.and_false]
        simp
    · rw [if_neg c] at hr; cases hr
  rw [e]
  conv => rhs; rw [e2, List.filter_append, List.filter_append, f1, f3, List.nil_append, List.append_nil]
/-- An honest proof is taken, and gives just what is between. -/
theorem honest {l : List S45} (hok : pokM l l.length 0 = true) (h60 : l.length ≤ 60) (lo hi : ByteArray) :
    chkB (rootOfM l) lo hi (proveM l lo hi).1 (proveM l lo hi).2.1 (proveM l lo hi).2.2 = (l.filter (btwB lo hi), true) := by
  have hroot : rootOfM l = rootM l := by unfold rootOfM; rw [if_neg (by omega)]
  unfold proveM
  rw [if_pos hok]
  dsimp only
  by_cases h0 : l.length = 0
  · have hl : l = [] := List.eq_nil_of_length_eq_zero h0
    subst hl
    unfold chkB
    rw [if_pos (by simp)]
    have hb : begM ([] : List S45) lo = 0 ∧ endM ([] : List S45) lo hi = 0 := by unfold begM endM fromM; simp [whileM]
    rw [hb.1, hb.2, hroot]
    simp [itemsM]
  have hto := toM_le l lo hi
  have hbe : begM l lo < endM l lo hi := by unfold begM endM; omega
  have hend : endM l lo hi ≤ l.length := by unfold endM; omega
  rw [if_pos hbe]
  have hlen := itemsM_len l (endM l lo hi - begM l lo) (begM l lo)
  have hit : ∀ j, j < endM l lo hi - begM l lo → itm (itemsM l (endM l lo hi - begM l lo) (begM l lo)) (j : Int) = itemM l (begM l lo + j) := fun j hj => by
    unfold itm rd_T52
    rw [List.getD_eq_getElem?_getD, Int.toNat_natCast, itemsM_get l _ _ j hj]
    rfl
  generalize hI : itemsM l (endM l lo hi - begM l lo) (begM l lo) = I at hlen hit ⊢
  have hown : ∀ j, j < I.length → begM l lo + j < l.length ∧ pof (itm I (j : Int)) = rd_T45 l ((begM l lo + j : Nat) : Int) := fun j hj => by
    rw [hit j (by omega)]
    exact ⟨by omega, rfl⟩
  have hpw := pokM_pairwise l hok
  have less : ∀ i j (hi : i < l.length) (hj : j < l.length), i < j → Op.bytesLess l[i].f0.toList l[j].f0.toList = true := fun i j hi hj hij => List.pairwise_iff_getElem.1 hpw i j hi hj hij
  obtain ⟨a1, a2, a3, a4⟩ := whileM_spec (lessP l lo) l.length 0
  obtain ⟨b1, b2, b3, b4⟩ := whileM_spec (btwP l lo hi) (l.length - fromM l lo) (fromM l lo)
  have hall : ∀ d i : Nat, i + d = I.length → allOk (rootOfM l) (l.length : Int) (begM l lo : Int) I d i = true := by
    intro d
    induction d with
    | zero => intro i _; rfl
    | succ d ih =>
      intro i hid
      rw [allOk]
      have hi2 : begM l lo + i < l.length := by omega
      have hq := pokM_all l l.length 0 hok (begM l lo + i) (by omega) (by omega)
      have hone : itOk (rootOfM l) (l.length : Int) (begM l lo : Int) I i = true := by
        unfold itOk
        rw [hit i (by omega)]
        rw [if_pos (show pairOkM (itemM l (begM l lo + i)).f0.f0 (itemM l (begM l lo + i)).f0.f1 = true from hq.1), if_pos ?_]
        · have := check_own h60 hi2
          rw [show (begM l lo : Int) + (i : Int) = ((begM l lo + i : Nat) : Int) by omega]
          exact this
        · intro hp
          rw [show (i : Int) - 1 = ((i - 1 : Nat) : Int) by omega, hit (i - 1) (by omega)]
          show Op.bytesLess (rd_T45 l ((begM l lo + (i - 1) : Nat) : Int)).f0.toList (rd_T45 l ((begM l lo + i : Nat) : Int)).f0.toList = true
          rw [rdP_get l (by omega), rdP_get l hi2]
          exact less _ _ (by omega) hi2 (by omega)
      rw [if_pos hone]
      exact ih (i + 1) (by omega)
  have hreach : reachB lo hi (l.length : Int) (begM l lo : Int) I = true := by
    have hc : ((begM l lo : Int) = 0 ∨ Op.bytesLess (itm I 0).f0.f0.toList lo.toList = true) := by
      by_cases c : begM l lo = 0
      · exact .inl (by omega)
      · refine .inr ?_
        have h1 := hit 0 (by omega)
        rw [show ((0 : Nat) : Int) = 0 from rfl] at h1
        rw [h1]
        exact a3 (begM l lo) (by omega) (by unfold begM at c ⊢; unfold fromM; unfold fromM at c; omega)
    unfold reachB
    rw [if_pos hc]
    by_cases c : (begM l lo : Int) + (I.length : Int) = (l.length : Int)
    · rw [if_pos c]
    · rw [if_neg c]
      have ht : toM l lo hi < l.length - 1 := by rw [hlen] at c; unfold endM at c hbe; omega
      have hte : endM l lo hi = toM l lo hi + 1 := by unfold endM; omega
      have hfl : fromM l lo < l.length := by omega
      have n1 : btwP l lo hi (toM l lo hi) = false := b4 (by unfold toM at ht; omega)
      have n2 : Op.bytesLess (rd_T45 l (toM l lo hi : Int)).f0.toList lo.toList = false := by
        cases hx : Op.bytesLess (rd_T45 l (toM l lo hi : Int)).f0.toList lo.toList with
        | false => rfl
        | true =>
          have h0' : lessP l lo (fromM l lo) = false := a4 (by unfold fromM at hfl; omega)
          by_cases e : fromM l lo = toM l lo hi
          · unfold lessP at h0'
            rw [e, hx] at h0'
            cases h0'
          · rw [rdP_get l (by omega)] at hx
            have := less_trans (less (fromM l lo) (toM l lo hi) hfl (by omega) (by omega)) hx
            unfold lessP at h0'
            rw [rdP_get l hfl, this] at h0'
            cases h0'
      unfold btwP btwB at n1
      rw [n2] at n1
      simp only [Bool.not_false, Bool.true_and, Bool.or_eq_false_iff, decide_eq_false_iff_not] at n1
      rw [if_neg n1.1]
      have h1 := hit (I.length - 1) (by omega)
      rw [show ((I.length : Int) - 1) = ((I.length - 1 : Nat) : Int) by omega, h1]
      show (!(Op.bytesLess (rd_T45 l ((begM l lo + (I.length - 1) : Nat) : Int)).f0.toList hi.toList)) = true
      rw [show begM l lo + (I.length - 1) = toM l lo hi by omega, n1.2]
      rfl
  unfold chkB
  rw [if_neg (by omega), if_pos ⟨by omega, by omega, by omega, hall I.length 0 (by omega), hreach⟩, own_filter hok lo hi (begM l lo) I (by omega) hown hreach]
/-- Some item has a clash: it is found. -/
theorem clash_loop {l : List S45} (hl : l.length ≤ 1000) (hf : FewP l) (n F : Int) (hn : -1000 ≤ n ∧ n ≤ 1000) (hF : -1000 ≤ F ∧ F ≤ 1000) (its : List S52) (hft : FewT its) : ∀ (d i : Nat), i + d = its.length →
    (∃ j, i ≤ j ∧ j < its.length ∧ (partM l (itm its (j : Int)).f0.f0 (itm its (j : Int)).f0.f1 (F + (j : Int)) n (itm its (j : Int)).f1).2.2 = true) → Ev (fun k => laws_clashIn.l0 k l (i : Int) n F its) true := by
  have h7 := hft.1
  intro d
  induction d with
  | zero => rintro i hi ⟨j, h1, h2, _⟩; omega
  | succ d ih =>
    rintro i hi ⟨j, h1, h2, h3⟩
    have hil : i < its.length := by omega
    obtain ⟨⟨ha, hb⟩, hpl, hps⟩ := itm_few hft hil
    have hw : wrap64 (F + (i : Int)) = F + (i : Int) := w64 (by omega) (by omega)
    obtain ⟨K1, e1⟩ := Ev.get (impl_PartAt_ev l (by omega) hf (itm its (i : Int)).f0.f0 (itm its (i : Int)).f0.f1 ha hb (F + (i : Int)) n (by omega) (itm its (i : Int)).f1 hps (by omega))
    have hs := partM_size hf ha hb (i := F + (i : Int)) (n := n) hps
    obtain ⟨K2, e2⟩ := Ev.get (impl_IsClash_ev (partM l (itm its (i : Int)).f0.f0 (itm its (i : Int)).f0.f1 (F + (i : Int)) n (itm its (i : Int)).f1).1 (partM l (itm its (i : Int)).f0.f0 (itm its (i : Int)).f0.f1 (F + (i : Int)) n (itm its (i : Int)).f1).2.1 32 hs.1 hs.2)
    obtain ⟨K3, e3⟩ := Ev.get (spec_IsClash_ev (partM l (itm its (i : Int)).f0.f0 (itm its (i : Int)).f0.f1 (F + (i : Int)) n (itm its (i : Int)).f1).1 (partM l (itm its (i : Int)).f0.f0 (itm its (i : Int)).f0.f1 (F + (i : Int)) n (itm its (i : Int)).f1).2.1 32 hs.1 hs.2)
    by_cases c : (partM l (itm its (i : Int)).f0.f0 (itm its (i : Int)).f0.f1 (F + (i : Int)) n (itm its (i : Int)).f1).2.2 = true
    · have hc := partM_clash c
      refine ⟨K1 + K2 + K3 + 1, fun k hk => ?_⟩
      obtain ⟨k, rfl⟩ : ∃ q, k = q + 1 := ⟨k - 1, by omega⟩
      show laws_clashIn.l0 (k + 1) _ _ _ _ _ = _
      simp only [laws_clashIn.l0]
      have g1 := e1 k (by omega)
      have g2 := e2 k (by omega)
      have g3 := e3 k (by omega)
      rw [hc] at g2 g3
      rw [if_pos (by omega), if_pos (by omega), hw, show impl_PartAt.f k l _ _ _ _ _ = _ from g1, Option.bind_some, if_pos c, show impl_IsClash.f k _ _ _ = _ from g2, Option.bind_some, if_pos rfl, show spec_IsClash.f k _ _ _ = _ from g3, Option.bind_some, if_pos rfl]
    · have hij : i + 1 ≤ j := by
        rcases Nat.eq_or_lt_of_le h1 with e | e
        · subst e; exact absurd h3 c
        · omega
      obtain ⟨K4, e4⟩ := Ev.get (ih (i + 1) (by omega) ⟨j, hij, h2, h3⟩)
      refine ⟨K1 + K4 + 1, fun k hk => ?_⟩
      obtain ⟨k, rfl⟩ : ∃ q, k = q + 1 := ⟨k - 1, by omega⟩
      show laws_clashIn.l0 (k + 1) _ _ _ _ _ = _
      simp only [laws_clashIn.l0]
      have g1 := e1 k (by omega)
      have g4 := e4 k (by omega)
      rw [if_pos (by omega), if_pos (by omega), hw, show impl_PartAt.f k l _ _ _ _ _ = _ from g1, Option.bind_some, if_neg c, w64 (x := (i : Int) + 1) (by omega) (by omega)]
      exact g4
/-- What is taken is just what is between, or there is a clash. -/
theorem sound {l : List S45} (hok : pokM l l.length 0 = true) (h60 : l.length ≤ 60) (hf : FewP l) (lo hi : ByteArray) (n F : Int) (its : List S52) (hft : FewT its) (hc : (chkB (rootOfM l) lo hi n F its).2 = true) :
    (chkB (rootOfM l) lo hi n F its).1 = l.filter (btwB lo hi) ∨ Ev (fun k => laws_clashIn.f k l n F its) true := by
  have hroot : rootOfM l = rootM l := by unfold rootOfM; rw [if_neg (by omega)]
  have hinner : ∀ m : List S45, m.length ≤ 60 → innerOfM m = innerM m := fun m hm => by unfold innerOfM; rw [if_neg (by omega)]
  unfold chkB at hc ⊢
  by_cases c0 : n = 0
  · rw [if_pos c0] at hc ⊢
    dsimp only at hc ⊢
    by_cases h0 : l.length = 0
    · left
      rw [List.eq_nil_of_length_eq_zero h0]
      rfl
    · right
      by_cases c1 : ((its.length : Int) = 0 ∧ F = 0)
      · rw [if_pos c1, hroot] at hc
        have hd : digM (topB l.length (innerM l)) = digM (topB (([] : List S45).length) (innerM [])) := toList_inj (by simpa [rootM] using hc)
        have hne : topB (([] : List S45).length) (innerM []) ≠ topB l.length (innerM l) := fun e => by
          have := (topB_inj (by simp) (by omega) e).1
          simp at this
          omega
        have hcl := isClash (topB_by _ _) (topB_by _ _) hne hd.symm
        have z1 := topB_len (([] : List S45).length) (innerM [])
        have z2 := topB_len l.length (innerM l)
        have z3 := innerM_size l
        have z4 := innerM_size ([] : List S45)
        obtain ⟨K1, e1⟩ := Ev.get (impl_PutNum_ev [2] 0 (by simp))
        obtain ⟨K2, e2⟩ := Ev.get (impl_InnerOf_ev ([] : List S45) (fun _ h => absurd h List.not_mem_nil))
        obtain ⟨K3, e3⟩ := Ev.get (impl_PutNum_ev [2] (l.length : Int) (by simp))
        obtain ⟨K4, e4⟩ := Ev.get (impl_InnerOf_ev l hf.few)
        obtain ⟨K5, e5⟩ := Ev.get (impl_IsClash_ev (strOfNums (topB (([] : List S45).length) (innerM []))) (strOfNums (topB l.length (innerM l))) 32 (by rw [strOfNums_size]; omega) (by rw [strOfNums_size]; omega))
        obtain ⟨K6, e6⟩ := Ev.get (spec_IsClash_ev (strOfNums (topB (([] : List S45).length) (innerM []))) (strOfNums (topB l.length (innerM l))) 32 (by rw [strOfNums_size]; omega) (by rw [strOfNums_size]; omega))
        rw [hcl] at e5 e6
        rw [hinner _ (by simp)] at e2
        rw [hinner _ h60] at e4
        have y1 : (putNumM [2] 0 ++ bytesOf (innerM ([] : List S45)) : List Int) = topB (([] : List S45).length) (innerM []) := rfl
        have y2 : (putNumM [2] (l.length : Int) ++ bytesOf (innerM l) : List Int) = topB l.length (innerM l) := rfl
        have y3 : (putNumM [2] 0).length ≤ 38 := by have := congrArg List.length y1; rw [List.length_append] at this; omega
        have y4 : (putNumM [2] (l.length : Int)).length ≤ 38 := by have := congrArg List.length y2; rw [List.length_append] at this; omega
        refine ⟨K1 + K2 + K3 + K4 + K5 + K6, fun k hk => ?_⟩
        show laws_clashIn.f k l n F its = _
        unfold laws_clashIn.f
        rw [if_pos c0, e1 _ (by omega), Option.bind_some, e2 _ (by omega), Option.bind_some, if_pos (by omega), Option.bind_some, e3 _ (by omega), Option.bind_some, e4 _ (by omega), Option.bind_some, if_pos (by omega), Option.bind_some, y1, y2, e5 _ (by omega), Option.bind_some, if_pos rfl, e6 _ (by omega), Option.bind_some]
      · rw [if_neg c1] at hc; cases hc
  · rw [if_neg c0] at hc ⊢
    by_cases c1 : (1 ≤ n ∧ n ≤ 60) ∧ (1 ≤ (its.length : Int) ∧ (its.length : Int) ≤ n) ∧ (0 ≤ F ∧ F ≤ n - 1) ∧ allOk (rootOfM l) n F its its.length 0 = true ∧ reachB lo hi n F its = true
    · rw [if_pos c1]
      dsimp only
      obtain ⟨c2, c3, c4, c5, c6⟩ := c1
      by_cases hx : ∃ j, 0 ≤ j ∧ j < its.length ∧ (partM l (itm its (j : Int)).f0.f0 (itm its (j : Int)).f0.f1 (F + (j : Int)) n (itm its (j : Int)).f1).2.2 = true
      · right
        obtain ⟨K, e⟩ := Ev.get (clash_loop (by omega) hf n F (by omega) (by omega) its hft its.length 0 (by omega) hx)
        refine ⟨K, fun k hk => ?_⟩
        show laws_clashIn.f k l n F its = _
        unfold laws_clashIn.f
        rw [if_neg c0]
        exact e k hk
      · left
        obtain ⟨F', rfl⟩ := Int.eq_ofNat_of_zero_le c4.1
        have hown : ∀ j, j < its.length → ((l.length : Int) = n ∧ F' + j < l.length) ∧ pof (itm its (j : Int)) = rd_T45 l ((F' + j : Nat) : Int) := by
          intro j hj
          have h1 := allOk_at _ _ c5 j (by omega) (by omega)
          obtain ⟨⟨ha, hb⟩, hpl, hps⟩ := itm_few hft hj
          unfold itOk at h1
          split at h1
          · split at h1
            · rcases part_sound hf ha hb hok h1 with h2 | ⟨⟨h2, h3, h4⟩, h5, h6⟩
              · exact absurd ⟨j, by omega, hj, h2⟩ hx
              · refine ⟨⟨h2, by omega⟩, ?_⟩
                rw [show ((F' : Int) + (j : Int)) = ((F' + j : Nat) : Int) by omega] at h5 h6
                unfold pof
                rw [← h5, ← h6]
            · cases h1
          · cases h1
        obtain rfl : n = (l.length : Int) := (hown 0 (by omega)).1.1.symm
        exact own_filter hok lo hi F' its (by omega) (fun j hj => ⟨(hown j hj).1.2, (hown j hj).2⟩) c6
    · rw [if_neg c1] at hc; cases hc
theorem chk_none {root lo hi : ByteArray} {n F : Int} {its : List S52} (h : (chkB root lo hi n F its).2 = false) : (chkB root lo hi n F its).1 = [] := by
  unfold chkB at h ⊢
  by_cases c0 : n = 0
  · rw [if_pos c0]
  · rw [if_neg c0] at h ⊢
    by_cases c1 : (1 ≤ n ∧ n ≤ 60) ∧ (1 ≤ (its.length : Int) ∧ (its.length : Int) ≤ n) ∧ (0 ≤ F ∧ F ≤ n - 1) ∧ allOk root n F its its.length 0 = true ∧ reachB lo hi n F its = true
    · rw [if_pos c1] at h; cases h
    · rw [if_neg c1]
theorem same_loop (a b : List S45) (ha : a.length ≤ 1000000000000) (hab : a.length = b.length) : ∀ d i : Nat, i + d = a.length → ∃ r, Ev (fun k => laws_samePairs.l0 k a b (i : Int)) r := by
  intro d
  induction d with
  | zero =>
    intro i hi
    refine ⟨true, Ev.up (Ev.now _) (fun k _ => ?_)⟩
    simp only [laws_samePairs.l0]
    rw [if_neg (by omega)]
  | succ d ih =>
    intro i hi
    by_cases c : (!((((rd_T45 a (i : Int)).f0).toList) == (((rd_T45 b (i : Int)).f0).toList)) || (!((((rd_T45 a (i : Int)).f1).toList) == (((rd_T45 b (i : Int)).f1).toList)))) = true
    · refine ⟨false, Ev.up (Ev.now _) (fun k _ => ?_)⟩
      simp only [laws_samePairs.l0]
      rw [if_pos (by omega), if_pos (by omega), if_pos (by omega), if_pos c]
    · obtain ⟨r, hr⟩ := ih (i + 1) (by omega)
      refine ⟨r, Ev.up hr (fun k hk => ?_)⟩
      simp only [laws_samePairs.l0]
      rw [if_pos (by omega), if_pos (by omega), if_pos (by omega), if_neg c, w64 (by omega) (by omega)]
      exact hk
theorem same_some (a b : List S45) (ha : a.length ≤ 1000000000000) : ∃ r, Ev (fun k => laws_samePairs.f k a b) r := by
  by_cases c : (a.length : Int) = (b.length : Int)
  · obtain ⟨r, K, e⟩ := same_loop a b ha (by omega) a.length 0 (by omega)
    refine ⟨r, K, fun k hk => ?_⟩
    show laws_samePairs.f k a b = _
    unfold laws_samePairs.f
    rw [if_pos c]
    exact e k hk
  · refine ⟨false, 0, fun k _ => ?_⟩
    show laws_samePairs.f k a b = _
    unfold laws_samePairs.f
    rw [if_neg c]
theorem pure_holds : Pure := by
  intro s h0
  by_cases c : (s.length : Int) > 1048576
  · refine ⟨0, ?_⟩
    unfold laws_FnProved.f laws_big.f
    rw [Option.bind_some, if_pos (by simpa using c)]
  obtain ⟨l, lo, hi, n, F, its, e, hpr, hg, hl8, hn, hF, hft⟩ := DrawLie_some s (by omega)
  have hf : FewP l := fun q hq => by have := hpr q hq; exact ⟨by omega, by omega⟩
  have hok := hg.pok (by omega)
  have hfl : (l.filter (btwB lo hi)).length ≤ l.length := List.length_filter_le _ _
  have hpb := proveM_bt hpr (by omega) lo hi
  obtain ⟨K1, e1⟩ := Ev.get e
  obtain ⟨K2, e2⟩ := Ev.get (impl_RootOf_ev l hf.few)
  obtain ⟨K3, e3⟩ := Ev.get (impl_Between_ev l (by omega) lo hi)
  obtain ⟨K4, e4⟩ := Ev.get (impl_ProveBetween_ev l (by omega) hf.few lo hi)
  obtain ⟨K5, e5⟩ := Ev.get (impl_CheckBetween_ev (rootOfM l) lo hi (proveM l lo hi).1 (proveM l lo hi).2.1 (by omega) (proveM l lo hi).2.2 (hpb.2.2.1.few (by omega)))
  rw [honest hok (by omega) lo hi] at e5
  obtain ⟨K6, e6⟩ := Ev.get (spec_RootOf_ev l hf.few)
  obtain ⟨K7, e7⟩ := Ev.get (samePairs_ev (l.filter (btwB lo hi)) (by omega))
  obtain ⟨K8, e8⟩ := Ev.get (impl_CheckBetween_ev (rootOfM l) lo hi n F (by omega) its hft)
  obtain ⟨K9, e9⟩ := Ev.get (spec_CheckBetween_ev (rootOfM l) lo hi n F (by omega) its hft)
  have hs := sound hok (by omega) hf lo hi n F its hft
  have hno := @chk_none (rootOfM l) lo hi n F its
  generalize hC : chkB (rootOfM l) lo hi n F its = C at e8 e9 hs hno
  obtain ⟨got, is⟩ := C
  -- what comes behind both checks
  have key : ∃ K, ∀ k, K ≤ k → laws_FnProved.j1 (k + 1) l (l.filter (btwB lo hi)) got is is (!is) n F its = some true := by
    cases is with
    | false =>
      refine ⟨0, fun k _ => ?_⟩
      have hg0 : got = [] := hno rfl
      simp only [laws_FnProved.j1]
      rw [if_pos (by rfl), if_pos (by rfl), hg0]
      rfl
    | true =>
      by_cases c2 : got = l.filter (btwB lo hi)
      · refine ⟨K7, fun k hk => ?_⟩
        simp only [laws_FnProved.j1]
        rw [if_neg (by simp), c2, e7 k hk, Option.bind_some, if_pos rfl]
      · rcases hs rfl with h2 | h2
        · exact absurd h2 c2
        · have hgl : got.length ≤ 1000000000000 := by
            have hh := congrArg Prod.fst hC
            have : (chkB (rootOfM l) lo hi n F its).1.length ≤ its.length := by
              unfold chkB
              split
              · exact Nat.zero_le _
              · split
                · exact Nat.le_trans (List.length_filter_le _ _) (by rw [List.length_map]; exact Nat.le_refl _)
                · exact Nat.zero_le _
            rw [hC] at this
            have h9 := hft.1
            dsimp only at this
            omega
          obtain ⟨r, hr⟩ := same_some got (l.filter (btwB lo hi)) hgl
          obtain ⟨Ka, ea⟩ := Ev.get hr
          obtain ⟨Kb, eb⟩ := Ev.get h2
          refine ⟨Ka + Kb, fun k hk => ?_⟩
          simp only [laws_FnProved.j1]
          rw [if_neg (by simp), ea k (by omega), Option.bind_some]
          by_cases c3 : r = true
          · rw [if_pos c3]
          · rw [if_neg c3, eb k (by omega), Option.bind_some]
  obtain ⟨Kt, et⟩ := key
  refine ⟨K1 + K2 + K3 + K4 + K5 + K6 + K7 + K8 + K9 + Kt + 2, ?_⟩
  unfold laws_FnProved.f laws_big.f
  rw [Option.bind_some, if_neg (by simpa using c), e1 _ (by omega), Option.bind_some]
  dsimp only
  rw [e2 _ (by omega), Option.bind_some, e3 _ (by omega), Option.bind_some, e4 _ (by omega), Option.bind_some, e5 _ (by omega), Option.bind_some, e6 _ (by omega), Option.bind_some, if_pos rfl, if_pos rfl, e7 _ (by omega), Option.bind_some]
  simp only [laws_FnProved.j0]
  rw [if_neg (by simp), e8 _ (by omega), Option.bind_some, e9 _ (by omega), Option.bind_some, if_neg (by simp)]
  exact et _ (by omega)
end Go.Proofs.Ytgmfhchhbidlnaa.fnProved
namespace Go.Proofs.Ytgmfhchhbidlnaa
theorem fnProved_holds : Rows.FnProvedSaid := fnProved.proved fnProved.pure_holds
#print axioms fnProved_holds
end Go.Proofs.Ytgmfhchhbidlnaa
