/- FnKeys: a key that is put into drawn pairs is got; taken away it is not; all others are as they were. No condition. -/
import Derived.Test.YtamkjoflkkffhaaLawFnKeys
import Derived.Test.YtamkjoflkkffhaaGet
import Derived.Test.YtamkjoflkkffhaaDrawPairs
import Derived.Test.YtamkjoflkkffhaaPx0
import Derived.Test.YtamkjoflkkffhaaPx12
import Derived.Test.YtamkjoflkkffhaaPx13
import Derived.Test.YtamkjoflkkffhaaPx15
import Derived.Test.YtamkjoflkkffhaaPx16
import Derived.Test.YtamkjoflkkffhaaPx17
import Derived.Test.YtamkjoflkkffhaaPx18
import Derived.Test.YtamkjoflkkffhaaPx19
import Derived.Test.YtamkjoflkkffhaaPx20
import Derived.Test.YtamkjoflkkffhaaPx21
import Derived.Test.YtamkjoflkkffhaaPx7
namespace Go.Proofs.Ytamkjoflkkffhaa.fnKeys
open Go.RowKit Go.Proofs.YtamkjoflkkffhaaW.PrintWords Go.Proofs.YtamkjoflkkffhaaW.PrintLast Go.Proofs.YtamkjoflkkffhaaW.PrintMore Go.Proofs.Ytamkjoflkkffhaa.P
set_option linter.unusedVariables false
set_option linter.unusedSimpArgs false
theorem DrawPutKey_some (s : List Int) (hs : s.length ≤ 1048576) : ∃ l a b, Ev (fun k => spec_DrawPutKey.f k s) (l, a, b) ∧ PR l ∧ l.length ≤ 9 ∧ a.size ≤ 20 ∧ b.size ≤ 20 := by
  obtain ⟨y, e, h⟩ := l1New_some s hs
  obtain ⟨l, q, y2, e2, h2, hl, hll⟩ := l3Any_some h y
  obtain ⟨a, q3, y3, e3, h3, ha⟩ := l3KeyAny_some h2 y2
  obtain ⟨b, q4, y4, e4, h4, hb⟩ := l3Val_some h3 y3
  obtain ⟨K1, e1⟩ := Ev.get e
  obtain ⟨K2, e2⟩ := Ev.get e2
  refine ⟨l, a, b, ⟨K1 + K2, fun k hk => ?_⟩, hl, hll, ha, hb⟩
  show spec_DrawPutKey.f k s = _
  unfold spec_DrawPutKey.f
  rw [e1 _ (by omega), Option.bind_some, e2 _ (by omega), Option.bind_some, e3, Option.bind_some, e4, Option.bind_some]
theorem loop (l p d : List S53) (a : ByteArray) (hl : l.length ≤ 1000) (hg : ∀ q ∈ l, q.f0.toList ≠ a.toList → getO d q.f0.toList = getO l q.f0.toList) (R : Bool)
    (hend : Ev (fun k => (spec_PairsOk.f k l).bind fun t764 => (if t764 = true then ((spec_KeyOk.f k a).bind fun t765 => (if t765 = true then (if (l.length : Int) = 60 then (some true) else ((impl_PairsOk.f k p).bind fun t766 => (if t766 = true then ((impl_PairsOk.f k d).bind fun t767 => (some t767)) else (some false)))) else (some true))) else (some true))) R) :
    ∀ (n i : Nat), l.length - i = n → i ≤ l.length → Ev (fun k => laws_FnKeys.l0 k l a p d (i : Int)) R := by
  intro n
  induction n with
  | zero =>
    intro i hd hi
    refine Ev.up hend (fun k hk => ?_)
    simp only [laws_FnKeys.l0]
    rw [if_neg (by omega)]
    exact hk
  | succ n ih =>
    intro i hd hi
    have hil : i < l.length := by omega
    have hm := List.getElem_mem hil
    have hr := rd_53_nat l i hil
    have hk1 := GetKey_get l l[i].f0
    have hk2 := GetKey_get d l[i].f0
    obtain ⟨v, hv⟩ := getO_mem hm
    have c1 : (i : Int) < (l.length : Int) := by omega
    have c2 : (0 : Int) ≤ (i : Int) := by omega
    have hw : wrap64 ((i : Int) + 1) = ((i + 1 : Nat) : Int) := w64 (by omega) (by omega)
    rw [hv] at hk1
    refine Ev.up (ih (i + 1) (by omega) (by omega)) (fun k hk => ?_)
    simp only [laws_FnKeys.l0]
    rw [if_pos c1, if_pos c2, hr, hk1, Option.bind_some, hk2, Option.bind_some]
    by_cases ck : l[i].f0.toList = a.toList
    · rw [if_pos ck, hw]; exact hk
    · rw [if_neg ck, hg _ hm ck, hv]
      simp only [ansO]
      first
        | (rw [if_pos trivial, if_pos trivial, if_pos trivial, hw]; exact hk)
        | (rw [hw]; simpa using hk)
theorem pure_holds : Pure := by
  intro s h0
  by_cases c : (s.length : Int) > 1048576
  · refine ⟨0, ?_⟩
    unfold laws_FnKeys.f laws_big.f
    rw [Option.bind_some, if_pos (by simpa using c)]
  obtain ⟨l, a, b, e, hpr, hl, ha, hb⟩ := DrawPutKey_some s (by omega)
  obtain ⟨p, hp⟩ : ∃ p, p = pk_M l a b := ⟨_, rfl⟩
  obtain ⟨d, hd⟩ : ∃ d, d = p.filter (dk_q a) := ⟨_, rfl⟩
  have hpl := pk_M_len l a b
  rw [← hp] at hpl
  have hdl : d.length ≤ p.length := by rw [hd]; exact List.length_filter_le _ _
  obtain ⟨K1, e1⟩ := Ev.get e
  obtain ⟨K2, e2⟩ := Ev.get (hp ▸ spec_PutKey_ev l (by omega) a b)
  have e3 : impl_PutKey.f l a b = some p := by rw [hp]; exact impl_PutKey_eq l (by omega) a b
  have e4 : impl_DelKey.f p a = some d := by rw [hd]; exact impl_DelKey_eq p (by omega) a
  have e5 : impl_GetKey.f p a = some (b, true) := by rw [GetKey_get, hp, put_get]; rfl
  have e6 : impl_GetKey.f d a = some (⟨#[]⟩, false) := by rw [GetKey_get, hd, del_none]; rfl
  obtain ⟨K4, e7⟩ := Ev.get (samePairs_ev p (by omega))
  have hprp : ∀ q ∈ p, q.f0.size ≤ 140737488355328 := fun q hq => by
    rw [hp] at hq
    obtain ⟨l1, l2, k, h1, h2, h3, h4⟩ := pk_split l a b
    rw [h1] at hq
    have hk : k.size ≤ 140737488355328 := by rw [get_toList_inj h2]; omega
    rcases List.mem_append.1 hq with h5 | h5
    · rcases h4 with ⟨h6, _⟩ | ⟨old, h6⟩
      · have := (hpr q (by rw [h6]; exact List.mem_append_left _ h5)).1; omega
      · have := (hpr q (by rw [h6]; exact List.mem_append_left _ h5)).1; omega
    · rcases List.mem_cons.1 h5 with rfl | h7
      · exact hk
      · rcases h4 with ⟨h6, _⟩ | ⟨old, h6⟩
        · have := (hpr q (by rw [h6]; exact List.mem_append_right _ h7)).1; omega
        · have := (hpr q (by rw [h6]; exact List.mem_append_right _ (List.mem_cons_of_mem _ h7))).1; omega
  have hprd : ∀ q ∈ d, q.f0.size ≤ 140737488355328 := fun q hq => hprp q (by rw [hd] at hq; exact (List.mem_filter.1 hq).1)
  have hg : ∀ q ∈ l, q.f0.toList ≠ a.toList → getO d q.f0.toList = getO l q.f0.toList := fun q _ hne => by rw [hd, del_other p a hne, hp, put_other l a b hne]
  obtain ⟨K5, e8⟩ := Ev.get (spec_PairsOk_ev l (by omega) (fun q hq => by have := (hpr q hq).1; omega))
  obtain ⟨K6, e9⟩ := Ev.get (spec_KeyOk_ev a (by omega))
  obtain ⟨K7, e10⟩ := Ev.get (impl_PairsOk_ev p (by omega) hprp)
  obtain ⟨K8, e11⟩ := Ev.get (impl_PairsOk_ev d (by omega) hprd)
  have hend : Ev (fun k => (spec_PairsOk.f k l).bind fun t764 => (if t764 = true then ((spec_KeyOk.f k a).bind fun t765 => (if t765 = true then (if (l.length : Int) = 60 then (some true) else ((impl_PairsOk.f k p).bind fun t766 => (if t766 = true then ((impl_PairsOk.f k d).bind fun t767 => (some t767)) else (some false)))) else (some true))) else (some true))) true := by
    refine Ev.mk (K5 + K6 + K7 + K8) (fun k hk => ?_)
    have g8 := e8 k (by omega)
    have g9 := e9 k (by omega)
    have g10 := e10 k (by omega)
    have g11 := e11 k (by omega)
    have d1 : ¬ (l.length : Int) = 60 := by omega
    show (spec_PairsOk.f k l).bind _ = _
    rw [g8, Option.bind_some]
    by_cases ck : pokM l l.length 0 = true
    · rw [if_pos ck, g9, Option.bind_some]
      by_cases cy : keyOkM a = true
      · have hO := (OKP.of ck).put cy hb
        rw [← hp] at hO
        have h1 := hO.pok (by omega)
        have h2 := (hO.filter (dk_q a)).pok (by rw [← hd]; omega)
        rw [← hd] at h2
        rw [if_pos cy, if_neg d1, g10, Option.bind_some, if_pos h1, g11, Option.bind_some, h2]
      · rw [if_neg cy]
    · rw [if_neg ck]
  obtain ⟨K9, e12⟩ := Ev.get (loop l p d a (by omega) hg true hend _ 0 rfl (by omega))
  refine ⟨K1 + K2 + K4 + K9 + 1, ?_⟩
  unfold laws_FnKeys.f laws_big.f
  rw [Option.bind_some, if_neg (by simpa using c), e1 _ (by omega), Option.bind_some, e3, Option.bind_some, e5, Option.bind_some, e4, Option.bind_some, e6, Option.bind_some, if_pos rfl, if_pos rfl, if_neg (by simp), e2 _ (by omega), Option.bind_some, e7 _ (by omega), Option.bind_some]
  simp only [laws_FnKeys.j0]
  rw [if_neg (by simp)]
  exact e12 _ (by omega)
end Go.Proofs.Ytamkjoflkkffhaa.fnKeys
namespace Go.Proofs.Ytamkjoflkkffhaa
theorem fnKeys_holds : Rows.FnKeysSaid := fnKeys.proved fnKeys.pure_holds
#print axioms fnKeys_holds
end Go.Proofs.Ytamkjoflkkffhaa
