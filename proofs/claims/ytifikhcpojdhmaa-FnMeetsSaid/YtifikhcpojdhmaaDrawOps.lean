/- What is drawn as orders: that drawing ends, and how many there are. No condition but bounds on lengths. -/
import Derived.Test.YtifikhcpojdhmaaDrawPairs
import Derived.Test.YtifikhcpojdhmaaMeets
import Derived.Test.YtifikhcpojdhmaaPx0
import Derived.Test.YtifikhcpojdhmaaPx13
import Derived.Test.YtifikhcpojdhmaaPx14
import Derived.Test.YtifikhcpojdhmaaPx15
import Derived.Test.YtifikhcpojdhmaaPx4
namespace Go.Proofs.Ytifikhcpojdhmaa.P
open Go.RowKit Go.Proofs.YtifikhcpojdhmaaW.PrintWords Go.Proofs.YtifikhcpojdhmaaW.PrintLast Go.Proofs.YtifikhcpojdhmaaW.PrintMore
set_option linter.unusedVariables false
set_option linter.unusedSimpArgs false
theorem l7Op1_some {s : List Int} {p : Int} (h : St s p) (x : Int) : ∃ a b c q y, spec_l7Op1.f s p x = some (a, b, c, q, y) ∧ St s q := by
  obtain ⟨v, q, y, e, hq, hm⟩ := l1Int_some h x ([1, 1, 1, 2, 3] : List Int) (by decide)
  obtain ⟨b, q2, y2, e2, hq2, _⟩ := l3Key_some hq y
  unfold spec_l7Op1.f
  rw [e, Option.bind_some, e2, Option.bind_some]
  by_cases c : v = 2
  · rw [if_pos c]
    exact ⟨_, _, _, _, _, rfl, hq2⟩
  · rw [if_neg c]
    obtain ⟨t, q3, y3, e3, hq3, _⟩ := l1Str_some hq2 y2 ([(⟨#[49]⟩ : ByteArray), (⟨#[50]⟩ : ByteArray), (⟨#[120]⟩ : ByteArray), (⟨#[]⟩ : ByteArray), (⟨#[49]⟩ : ByteArray)] : List ByteArray) (by decide)
    rw [e3, Option.bind_some]
    exact ⟨_, _, _, _, _, rfl, hq3⟩
theorem l7One_put (l : List S41) (hl : l.length ≤ 1000) (a : Int) (b c : ByteArray) : ∀ (d i : Nat) (x : List S41), l.length - i = d → i ≤ l.length → 1 ≤ x.length → x.length ≤ i + 1 →
    ∃ r, Ev (fun k => spec_l7One.l0 k l x true (i : Int) a b c) r ∧ 1 ≤ r.length ∧ r.length ≤ l.length + 1 := by
  intro d
  induction d with
  | zero =>
    intro i x hd hi h1 h2
    refine ⟨x, Ev.up (Ev.now _) (fun k _ => ?_), h1, by omega⟩
    simp only [spec_l7One.l0]
    rw [if_neg (by omega), if_pos trivial]
  | succ d ih =>
    intro i x hd hi h1 h2
    by_cases ck : (rd_T41 l (i : Int)).f1.toList = b.toList
    · obtain ⟨r, e, hr⟩ := ih (i + 1) x (by omega) (by omega) h1 (by omega)
      refine ⟨r, Ev.up (Ev.up e (fun k hk => ?_) : Ev (fun k => spec_l7One.j1 k l x true (i : Int) false a b c) r) (fun k hk => ?_), hr⟩
      · simp only [spec_l7One.j1]
        rw [if_neg (by simp), if_pos (by omega), if_pos (by omega), if_pos ck, w64 (by omega) (by omega)]
        exact hk
      · simp only [spec_l7One.l0]
        rw [if_pos (by omega), if_pos trivial]
        exact hk
    · obtain ⟨r, e, hr⟩ := ih (i + 1) (x ++ [(⟨(rd_T41 l i).f0, (rd_T41 l i).f1, (rd_T41 l i).f2⟩ : S41)]) (by omega) (by omega) (by simp) (by simp; omega)
      refine ⟨r, Ev.up (Ev.up e (fun k hk => ?_) : Ev (fun k => spec_l7One.j1 k l x true (i : Int) false a b c) r) (fun k hk => ?_), hr⟩
      · simp only [spec_l7One.j1]
        rw [if_neg (by simp), if_pos (by omega), if_pos (by omega), if_neg ck, if_pos (by omega), w64 (by omega) (by omega)]
        exact hk
      · simp only [spec_l7One.l0]
        rw [if_pos (by omega), if_pos trivial]
        exact hk
theorem l7One_loop (l : List S41) (hl : l.length ≤ 1000) (a : Int) (b c : ByteArray) : ∀ (d i : Nat) (x : List S41), l.length - i = d → i ≤ l.length → x.length ≤ i →
    ∃ r, Ev (fun k => spec_l7One.l0 k l x false (i : Int) a b c) r ∧ 1 ≤ r.length ∧ r.length ≤ l.length + 1 := by
  intro d
  induction d with
  | zero =>
    intro i x hd hi h2
    refine ⟨x ++ [(⟨a, b, c⟩ : S41)], Ev.up (Ev.now _) (fun k _ => ?_), by simp, by simp; omega⟩
    simp only [spec_l7One.l0]
    rw [if_neg (by omega), if_neg (by simp), if_pos (by omega)]
  | succ d ih =>
    intro i x hd hi h2
    -- the first step, whichever way the order goes
    have up : ∀ r, Ev (fun k => spec_l7One.j1 k l x false (i : Int) (!(Op.bytesLess (rd_T41 l (i : Int)).f1.toList b.toList)) a b c) r → Ev (fun k => spec_l7One.l0 k l x false (i : Int) a b c) r := fun r e => Ev.up e (fun k hk => by
      simp only [spec_l7One.l0]
      rw [if_pos (by omega), if_neg (by simp), if_pos (by omega)]
      exact hk)
    by_cases cl : (!(Op.bytesLess (rd_T41 l (i : Int)).f1.toList b.toList)) = true
    · by_cases ck : (rd_T41 l (i : Int)).f1.toList = b.toList
      · obtain ⟨r, e, hr⟩ := l7One_put l hl a b c _ (i + 1) (x ++ [(⟨a, b, c⟩ : S41)]) rfl (by omega) (by simp) (by simp; omega)
        refine ⟨r, up r (Ev.up e (fun k hk => ?_)), hr⟩
        simp only [spec_l7One.j1]
        rw [if_pos cl, if_pos (by omega), Option.bind_some, if_pos (by omega), if_pos (by omega), if_pos ck, w64 (by omega) (by omega)]
        exact hk
      · obtain ⟨r, e, hr⟩ := l7One_put l hl a b c _ (i + 1) (x ++ [(⟨a, b, c⟩ : S41)] ++ [(⟨(rd_T41 l i).f0, (rd_T41 l i).f1, (rd_T41 l i).f2⟩ : S41)]) rfl (by omega) (by simp) (by simp; omega)
        refine ⟨r, up r (Ev.up e (fun k hk => ?_)), hr⟩
        simp only [spec_l7One.j1]
        rw [if_pos cl, if_pos (by omega), Option.bind_some, if_pos (by omega), if_pos (by omega), if_neg ck, if_pos (by simp; omega), w64 (by omega) (by omega)]
        exact hk
    · by_cases ck : (rd_T41 l (i : Int)).f1.toList = b.toList
      · obtain ⟨r, e, hr⟩ := ih (i + 1) x (by omega) (by omega) (by omega)
        refine ⟨r, up r (Ev.up e (fun k hk => ?_)), hr⟩
        simp only [spec_l7One.j1]
        rw [if_neg cl, if_pos (by omega), if_pos (by omega), if_pos ck, w64 (by omega) (by omega)]
        exact hk
      · obtain ⟨r, e, hr⟩ := ih (i + 1) (x ++ [(⟨(rd_T41 l i).f0, (rd_T41 l i).f1, (rd_T41 l i).f2⟩ : S41)]) (by omega) (by omega) (by simp; omega)
        refine ⟨r, up r (Ev.up e (fun k hk => ?_)), hr⟩
        simp only [spec_l7One.j1]
        rw [if_neg cl, if_pos (by omega), if_pos (by omega), if_neg ck, if_pos (by omega), w64 (by omega) (by omega)]
        exact hk
theorem l7One_some (l : List S41) (hl : l.length ≤ 1000) (a : Int) (b c : ByteArray) : ∃ r, Ev (fun k => spec_l7One.f k l a b c) r ∧ 1 ≤ r.length ∧ r.length ≤ l.length + 1 :=
  l7One_loop l hl a b c _ 0 [] rfl (by omega) (by simp)
theorem l7Draw_loop (s : List Int) : ∀ (n : Nat) (acc : List S41) (p x : Int), acc.length + n ≤ 100 → St s p →
    ∃ r q y, Ev (fun k => spec_l7Draw.l0 k acc (n : Int) s p x) (r, q, y) ∧ St s q ∧ r.length ≤ acc.length + n ∧ (1 ≤ acc.length ∨ 1 ≤ n → 1 ≤ r.length) := by
  intro n
  induction n with
  | zero =>
    intro acc p x hl hs
    refine ⟨acc, p, x, Ev.up (Ev.now _) (fun k _ => ?_), hs, by omega, by omega⟩
    simp only [spec_l7Draw.l0]
    rw [if_neg (by omega)]
  | succ n ih =>
    intro acc p x hl hs
    obtain ⟨a, b, c, q, y, e, h1⟩ := l7Op1_some hs x
    obtain ⟨r, e3, hr1, hrl⟩ := l7One_some acc (by omega) a b c
    obtain ⟨r2, q3, y3, e4, h4, hrl4, hr4⟩ := ih r q y (by omega) h1
    obtain ⟨K3, e3⟩ := Ev.get e3
    obtain ⟨K4, e4⟩ := Ev.get e4
    refine ⟨r2, q3, y3, ⟨K3 + K4 + 1, fun k hk => ?_⟩, h4, by omega, fun _ => hr4 (Or.inl hr1)⟩
    obtain ⟨k, rfl⟩ : ∃ j, k = j + 1 := ⟨k - 1, by omega⟩
    have hx := e4 k (by omega)
    show spec_l7Draw.l0 (k + 1) _ _ _ _ _ = _
    simp only [spec_l7Draw.l0]
    rw [if_pos (by omega), e, Option.bind_some, e3 _ (by omega), Option.bind_some, w64 (by omega) (by omega), show ((n + 1 : Nat) : Int) - 1 = (n : Int) by omega]
    exact hx
theorem l7Draw_some {s : List Int} {p : Int} (h : St s p) (x : Int) : ∃ r q y, Ev (fun k => spec_l7Draw.f k s p x) (r, q, y) ∧ St s q ∧ 1 ≤ r.length ∧ r.length ≤ 4 := by
  obtain ⟨v, q, y, e, hq, h0, h1⟩ := l1Below_some h x 4 (by decide)
  obtain ⟨n, rfl⟩ := Int.eq_ofNat_of_zero_le h0
  obtain ⟨r, q2, y2, e2, h2, hl, hr⟩ := l7Draw_loop s (n + 1) [] q y (by simp; omega) hq
  simp only [List.length_nil] at hl
  refine ⟨r, q2, y2, e2.congr (fun k => ?_), h2, hr (by omega), by omega⟩
  unfold spec_l7Draw.f
  rw [e, Option.bind_some, w64 (by omega) (by omega), show (1 : Int) + (n : Int) = ((n + 1 : Nat) : Int) by omega]
theorem l7Any_some {s : List Int} {p : Int} (h : St s p) (x : Int) : ∃ r q y, Ev (fun k => spec_l7Any.f k s p x) (r, q, y) ∧ St s q ∧ r.length ≤ 5 := by
  obtain ⟨r, q, y, e, h1, hr, hl⟩ := l7Draw_some h x
  obtain ⟨v, q2, y2, e2, h2, hv0, hv1⟩ := l1Below_some h1 y 10 (by decide)
  obtain ⟨K, eK⟩ := Ev.get e
  by_cases c : v = 0
  · obtain ⟨a, b, d, q3, y3, e3, h3⟩ := l7Op1_some h2 y2
    refine ⟨r ++ [(⟨a, b, d⟩ : S41)], q3, y3, ⟨K, fun k hk => ?_⟩, h3, by simp; omega⟩
    show spec_l7Any.f k s p x = _
    unfold spec_l7Any.f
    rw [eK k hk, Option.bind_some, e2, Option.bind_some, if_pos c, e3, Option.bind_some, if_pos (by simp only; omega)]
  by_cases c1 : v = 1
  · obtain ⟨n, q3, y3, e3, h3, hn0, hn1⟩ := l1Below_some h2 y2 5 (by decide)
    refine ⟨r.set (0 : Int).toNat ⟨n, (rd_T41 r 0).f1, (rd_T41 r 0).f2⟩, q3, y3, ⟨K, fun k hk => ?_⟩, h3, by simp; omega⟩
    show spec_l7Any.f k s p x = _
    unfold spec_l7Any.f
    rw [eK k hk, Option.bind_some, e2, Option.bind_some, if_neg c, if_pos c1, e3, Option.bind_some, if_pos (by simp only; omega)]
  by_cases c2 : v = 2
  · obtain ⟨n, q3, y3, e3, h3, _⟩ := l3KeyAny_some h2 y2
    refine ⟨r.set (0 : Int).toNat ⟨(rd_T41 r 0).f0, n, (rd_T41 r 0).f2⟩, q3, y3, ⟨K, fun k hk => ?_⟩, h3, by simp; omega⟩
    show spec_l7Any.f k s p x = _
    unfold spec_l7Any.f
    rw [eK k hk, Option.bind_some, e2, Option.bind_some, if_neg c, if_neg c1, if_pos c2, e3, Option.bind_some, if_pos (by simp only; omega)]
  by_cases c3 : v = 3
  · obtain ⟨n, q3, y3, e3, h3, hn0, hn1⟩ := l1Below_some h2 y2 2 (by decide)
    refine ⟨r.set (0 : Int).toNat ⟨(rd_T41 r 0).f0, (rd_T41 r 0).f1, strOfNums (List.replicate (wrap64 (20 + n) : Int).toNat 0)⟩, q3, y3, ⟨K, fun k hk => ?_⟩, h3, by simp; omega⟩
    show spec_l7Any.f k s p x = _
    unfold spec_l7Any.f
    rw [eK k hk, Option.bind_some, e2, Option.bind_some, if_neg c, if_neg c1, if_neg c2, if_pos c3, e3, Option.bind_some, if_pos (by rw [w64 (by omega) (by omega)]; omega), if_pos (by rw [w64 (by omega) (by omega)]; omega), if_pos (by simp only; omega)]
  by_cases c4 : v = 4
  · refine ⟨r.take (0 : Int).toNat, q2, y2, ⟨K, fun k hk => ?_⟩, h2, by simp⟩
    show spec_l7Any.f k s p x = _
    unfold spec_l7Any.f
    rw [eK k hk, Option.bind_some, e2, Option.bind_some, if_neg c, if_neg c1, if_neg c2, if_neg c3, if_pos c4, if_pos (by omega)]
  · refine ⟨r, q2, y2, ⟨K, fun k hk => ?_⟩, h2, by omega⟩
    show spec_l7Any.f k s p x = _
    unfold spec_l7Any.f
    rw [eK k hk, Option.bind_some, e2, Option.bind_some, if_neg c, if_neg c1, if_neg c2, if_neg c3, if_neg c4]
theorem DrawMeets_loop (s : List Int) (m : List S56) (hm : m.length ≤ 1000) : ∀ (d i : Nat) (x : List S41) (p z : Int), x.length - i = d → i ≤ x.length → x.length ≤ 1000 → St s p →
    ∃ r, Ev (fun k => spec_DrawMeets.l0 k m x (i : Int) s p z) (m, r) ∧ r.length = x.length := by
  intro d
  induction d with
  | zero =>
    intro i x p z hd hi hx hs
    refine ⟨x, Ev.up (Ev.now _) (fun k _ => ?_), rfl⟩
    simp only [spec_DrawMeets.l0]
    rw [if_neg (by omega)]
  | succ d ih =>
    intro i x p z hd hi hx hs
    obtain ⟨b, q, y, e, hq⟩ := l1Once_some hs z 2 (by decide)
    by_cases c : b = true
    · obtain ⟨K1, e1⟩ := Ev.get (spec_GetKey_ev m (by omega) (rd_T41 x (i : Int)).f1)
      obtain ⟨r, e2, hr⟩ := ih (i + 1) (x.set (i : Int).toNat ⟨3, (rd_T41 x (i : Int)).f1, (atM m (pairIdx m (rd_T41 x (i : Int)).f1.toList 0)).1⟩) q y (by simp; omega) (by simp; omega) (by simpa using hx) hq
      obtain ⟨K2, e2⟩ := Ev.get e2
      refine ⟨r, ⟨K1 + K2 + 1, fun k hk => ?_⟩, by simpa using hr⟩
      obtain ⟨k, rfl⟩ : ∃ j, k = j + 1 := ⟨k - 1, by omega⟩
      have hk2 := e2 k (by omega)
      show spec_DrawMeets.l0 (k + 1) _ _ _ _ _ _ = _
      simp only [spec_DrawMeets.l0]
      rw [if_pos (by omega), e, Option.bind_some, if_pos c, if_pos (by omega), e1 _ (by omega), Option.bind_some, w64 (by omega) (by omega)]
      exact hk2
    · obtain ⟨r, e2, hr⟩ := ih (i + 1) x q y (by omega) (by omega) hx hq
      refine ⟨r, Ev.up e2 (fun k hk => ?_), hr⟩
      simp only [spec_DrawMeets.l0]
      rw [if_pos (by omega), e, Option.bind_some, if_neg c, w64 (by omega) (by omega)]
      exact hk
theorem DrawMeets_some (s : List Int) (hs : s.length ≤ 1048576) : ∃ m x, Ev (fun k => spec_DrawMeets.f k s) (m, x) ∧ m.length ≤ 9 ∧ x.length ≤ 5 := by
  obtain ⟨y, e, h⟩ := l1New_some s hs
  obtain ⟨m, q, y2, e2, h2, _, hm⟩ := l3Any_some h y
  obtain ⟨x, q3, y3, e3, h3, hx⟩ := l7Any_some h2 y2
  obtain ⟨r, e4, hr⟩ := DrawMeets_loop s m (by omega) _ 0 x q3 y3 rfl (by omega) (by omega) h3
  obtain ⟨K1, e1⟩ := Ev.get e
  obtain ⟨K2, e2⟩ := Ev.get e2
  obtain ⟨K3, e3⟩ := Ev.get e3
  obtain ⟨K4, e4⟩ := Ev.get e4
  refine ⟨m, r, ⟨K1 + K2 + K3 + K4, fun k hk => ?_⟩, hm, by omega⟩
  show spec_DrawMeets.f k s = _
  unfold spec_DrawMeets.f
  rw [e1 _ (by omega), Option.bind_some, e2 _ (by omega), Option.bind_some, e3 _ (by omega), Option.bind_some]
  exact e4 _ (by omega)
end Go.Proofs.Ytifikhcpojdhmaa.P
