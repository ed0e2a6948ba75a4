/- FnTexts: drawn texts come back of their bytes; with one byte turned a text has another hash. No condition. -/
import Derived.Test.YthkaifddpjjmaaaLawFnTexts
import Derived.Test.YthkaifddpjjmaaaNums
import Derived.Test.YthkaifddpjjmaaaDraw
import Derived.Test.YthkaifddpjjmaaaCols
import Derived.Test.YthkaifddpjjmaaaHash
import Derived.Test.YthkaifddpjjmaaaPx1
import Derived.Test.YthkaifddpjjmaaaPx2
import Derived.Test.YthkaifddpjjmaaaPx5
import Derived.Test.YthkaifddpjjmaaaPx6
namespace Go.Proofs.Ythkaifddpjjmaaa.fnTexts
open Go.RowKit Go.Proofs.YthkaifddpjjmaaaW.PrintWords Go.Proofs.YthkaifddpjjmaaaW.PrintLast Go.Proofs.YthkaifddpjjmaaaW.PrintMore Go.Proofs.Ythkaifddpjjmaaa.P
set_option linter.unusedVariables false
set_option linter.unusedSimpArgs false
/-! ### what is drawn -/
theorem l1Texts_loop (s : List Int) : ∀ (n : Nat) (acc : List ByteArray) (p x : Int), acc.length + n ≤ 100 → (∀ t ∈ acc, t.size ≤ 15) → St s p →
    ∃ r q y, Ev (fun k => spec_l1Texts.l0 k acc (n : Int) s p x) (r, q, y) ∧ St s q ∧ (∀ t ∈ r, t.size ≤ 15) ∧ r.length = acc.length + n := by
  intro n
  induction n with
  | zero =>
    intro acc p x ha ht hs
    refine ⟨acc, p, x, Ev.up (Ev.now _) (fun k _ => ?_), hs, ht, rfl⟩
    simp only [spec_l1Texts.l0]
    rw [if_neg (by omega)]
  | succ n ih =>
    intro acc p x ha ht hs
    obtain ⟨v, q, y, e, hq, hm⟩ := l1Str_some hs x [(⟨#[]⟩ : ByteArray), (⟨#[97]⟩ : ByteArray), (⟨#[98, 99]⟩ : ByteArray), (⟨#[0, 255]⟩ : ByteArray), (⟨#[115, 111, 109, 101, 32, 109, 111, 114, 101, 32, 98, 121, 116, 101, 115]⟩ : ByteArray)] (by simp)
    have hv : v.size ≤ 15 := by
      simp only [List.mem_cons, List.not_mem_nil, or_false] at hm
      rcases hm with rfl | rfl | rfl | rfl | rfl <;> decide
    obtain ⟨r, q2, y2, e2, hq2, hr, hl⟩ := ih (acc ++ [v]) q y (by rw [List.length_append, List.length_singleton]; omega) (fun t h => by
      rcases List.mem_append.1 h with h1 | h1
      · exact ht t h1
      · rw [List.mem_singleton.1 h1]; exact hv) hq
    refine ⟨r, q2, y2, Ev.up e2 (fun k hk => ?_), hq2, hr, by rw [hl, List.length_append, List.length_singleton]; omega⟩
    simp only [spec_l1Texts.l0]
    rw [if_pos (by omega), e, Option.bind_some, if_pos (by omega), w64 (by omega) (by omega), show (((n + 1 : Nat) : Int) - 1) = (n : Int) by omega]
    exact hk
theorem DrawPutTexts_some (s : List Int) (hs : s.length ≤ 1048576) : ∃ b l, Ev (fun k => spec_DrawPutTexts.f k s) (b, l) ∧ By b ∧ b.length ≤ 9 ∧ l.length ≤ 4 ∧ ∀ t ∈ l, t.size ≤ 15 := by
  obtain ⟨y, e, h⟩ := l1New_some s hs
  obtain ⟨b, q, y2, e2, h2, hb, hl⟩ := l1Some_some h y
  obtain ⟨v, q3, y3, e3, h3, hv0, hv1⟩ := l1Below_some h2 y2 5 (by omega)
  obtain ⟨n, rfl⟩ := Int.eq_ofNat_of_zero_le hv0
  obtain ⟨r, q4, y4, e4, h4, hr, hrl⟩ := l1Texts_loop s n [] q3 y3 (by simp; omega) (fun _ h => absurd h List.not_mem_nil) h3
  obtain ⟨K1, e1⟩ := Ev.get e
  obtain ⟨K2, e2⟩ := Ev.get e2
  obtain ⟨K4, e4⟩ := Ev.get e4
  refine ⟨b, r, ⟨K1 + K2 + K4, fun k hk => ?_⟩, hb, hl, by rw [hrl, List.length_nil]; omega, hr⟩
  show spec_DrawPutTexts.f k s = _
  unfold spec_DrawPutTexts.f spec_l1Texts.f
  rw [e1 _ (by omega), Option.bind_some, e2 _ (by omega), Option.bind_some, e3, Option.bind_some, e4 _ (by omega), Option.bind_some]
theorem DrawHash_some (s : List Int) (hs : s.length ≤ 1048576) : ∃ t, Ev (fun k => spec_DrawHash.f k s) t ∧ t.size ≤ 9 := by
  obtain ⟨y, e, h⟩ := l1New_some s hs
  obtain ⟨b, q, y2, e2, h2, hb, hl⟩ := l1Some_some h y
  obtain ⟨K1, e1⟩ := Ev.get e
  obtain ⟨K2, e2⟩ := Ev.get e2
  refine ⟨strOfNums b, ⟨K1 + K2, fun k hk => ?_⟩, by rw [strOfNums_size]; exact hl⟩
  show spec_DrawHash.f k s = _
  unfold spec_DrawHash.f
  rw [e1 _ (by omega), Option.bind_some, e2 _ (by omega), Option.bind_some]
theorem at_some {s : List Int} (hb : By s) (hs : s.length ≤ 1048576) (i : Nat) (hi : i ≤ 100) : ∃ v, laws_at.f s (i : Int) = some v ∧ 0 ≤ v ∧ v < 256 := by
  unfold laws_at.f
  by_cases c : (i : Int) < (s.length : Int)
  · have := hb.rd (i : Int)
    exact ⟨_, by rw [if_pos c, if_pos (by omega)], by rw [w64 (by omega) (by omega)]; omega, by rw [w64 (by omega) (by omega)]; omega⟩
  · refine ⟨_, by rw [if_neg c], ?_, ?_⟩
    · rw [w64 (x := (i : Int) * 31) (by omega) (by omega), w64 (x := (s.length : Int) * 7) (by omega) (by omega), w64 (by omega) (by omega)]
      exact Int.tmod_nonneg _ (by omega)
    · exact Int.tmod_lt_of_pos _ (by omega)
/-! ### texts come back -/
theorem sameTexts_loop (t : List ByteArray) (ht : t.length ≤ 1000) : ∀ (d i : Nat), i + d = t.length → Ev (fun k => laws_sameTexts.l0 k t t (i : Int)) true := by
  intro d
  induction d with
  | zero =>
    intro i hi
    refine Ev.up (Ev.now _) (fun k _ => ?_)
    simp only [laws_sameTexts.l0]
    rw [if_neg (by omega)]
  | succ d ih =>
    intro i hi
    refine Ev.up (ih (i + 1) (by omega)) (fun k hk => ?_)
    simp only [laws_sameTexts.l0]
    rw [if_pos (by omega), if_pos (by omega), if_pos (by omega), if_pos (by first | trivial | rfl), w64 (by omega) (by omega)]
    exact hk
theorem sameTexts_ev (t : List ByteArray) (ht : t.length ≤ 1000) : Ev (fun k => laws_sameTexts.f k t t) true := by
  obtain ⟨K, e⟩ := Ev.get (sameTexts_loop t ht t.length 0 (by omega))
  refine ⟨K, fun k hk => ?_⟩
  show laws_sameTexts.f k t t = _
  unfold laws_sameTexts.f
  rw [if_pos rfl]
  exact e k hk
theorem gnM_front : ∀ (f p : Nat) (b c : List Int) (n : Int) (i : Nat), (gnM b f p n i).2.2 = true → gnM (b ++ c) f p n i = gnM b f p n i := by
  intro f
  induction f with
  | zero => intro p b c n i h; rfl
  | succ f ih =>
    intro p b c n i h
    rw [gnM] at h ⊢
    rw [gnM.eq_def b]
    by_cases h1 : p < b.length
    · have e : rd (b ++ c) (p : Int) = rd b (p : Int) := by
        rw [rd_nat _ p (by rw [List.length_append]; omega), rd_nat _ p h1, List.getElem_append_left h1]
      rw [if_pos h1] at h
      simp only [if_pos h1, if_pos (show p < (b ++ c).length by rw [List.length_append]; omega), e]
      by_cases h2 : rd b (p : Int) < 128
      · simp only [if_pos h2]
      · rw [if_neg h2] at h
        simp only [if_neg h2]
        exact ih _ _ _ _ _ h
    · rw [if_neg h1] at h
      cases h
theorem getNumM_front (b c : List Int) (a : Int) (h : (getNumM b a).2.2 = true) : getNumM (b ++ c) a = getNumM b a := by
  unfold getNumM at h ⊢
  by_cases h1 : 0 ≤ a
  · rw [if_pos h1] at h
    rw [if_pos h1, if_pos h1]
    exact gnM_front _ _ _ _ _ _ h
  · rw [if_neg h1] at h; cases h
theorem getTextM_front (b s c : List Int) (x : ByteArray) (hx : x.size ≤ 1000) : getTextM (putTextM b x ++ c) (b.length : Int) = (x, ((putTextM b x).length : Int), true) := by
  have hc : clampN (x.size : Int) = x.size := by unfold clampN; rw [if_neg (by omega), if_neg (by omega)]; omega
  have h := getNumM_put b (bytesOf x ++ c) x.size (by omega)
  have e : putTextM b x = b ++ encN x.size ++ bytesOf x := by rw [putTextM, putNumM, hc]
  have hl : ((b ++ encN x.size ++ bytesOf x).length : Int) = ((b ++ encN x.size).length : Int) + x.size := by simp only [List.length_append, bytesOf_length]; omega
  rw [e, List.append_assoc]
  generalize b ++ encN x.size = X at h hl ⊢
  unfold getTextM
  rw [h]
  simp only
  rw [if_pos trivial, if_neg (by simp only [List.length_append, bytesOf_length]; omega), show ((X.length : Int) + (x.size : Int)).toNat = (X ++ bytesOf x).length by rw [List.length_append, bytesOf_length]; omega, ← List.append_assoc, List.take_left, Int.toNat_natCast, List.drop_left, strOfNums_bytesOf, hl]
theorem gtsM_ptsM : ∀ (l : List ByteArray) (b : List Int) (acc : List ByteArray) (B : List Int), B = ptsM b l → (∀ t ∈ l, t.size ≤ 1000) → gtsM B l.length (b.length : Int) acc = (acc ++ l, (B.length : Int), true) := by
  intro l
  induction l with
  | nil =>
    intro b acc B hB _
    rw [hB]
    simp [gtsM, ptsM]
  | cons x l ih =>
    intro b acc B hB hs
    have hpre : ∀ (l : List ByteArray) (b : List Int), ∃ c, ptsM b l = b ++ c := by
      intro l
      induction l with
      | nil => intro b; exact ⟨[], by simp [ptsM]⟩
      | cons y l ih =>
        intro b
        obtain ⟨c, hc⟩ := ih (putTextM b y)
        exact ⟨encN (clampN (y.size : Int)) ++ bytesOf y ++ c, by rw [show ptsM b (y :: l) = ptsM (putTextM b y) l from rfl, hc, putTextM, putNumM]; simp only [List.append_assoc]⟩
    have hB2 : B = ptsM (putTextM b x) l := hB
    obtain ⟨c, hc⟩ := hpre l (putTextM b x)
    have hg := getTextM_front b [] c x (hs x List.mem_cons_self)
    rw [← hc, ← hB2] at hg
    rw [List.length_cons, gtsM, hg, if_pos rfl]
    have := ih (putTextM b x) (acc ++ [x]) B hB2 (fun t h => hs t (List.mem_cons_of_mem _ h))
    rw [this, List.append_assoc]
    rfl
theorem getTextsM_put (b : List Int) (l : List ByteArray) (hl : l.length ≤ 100) (hs : ∀ t ∈ l, t.size ≤ 1000) : getTextsM (putTextsM b l) (b.length : Int) = (l, ((putTextsM b l).length : Int), true) := by
  have hc : clampN (l.length : Int) = l.length := by unfold clampN; rw [if_neg (by omega), if_neg (by omega)]; omega
  have hpre : ∀ (l : List ByteArray) (b : List Int), ∃ c, ptsM b l = b ++ c := by
    intro l
    induction l with
    | nil => intro b; exact ⟨[], by simp [ptsM]⟩
    | cons y l ih =>
      intro b
      obtain ⟨c, hc⟩ := ih (putTextM b y)
      exact ⟨encN (clampN (y.size : Int)) ++ bytesOf y ++ c, by rw [show ptsM b (y :: l) = ptsM (putTextM b y) l from rfl, hc, putTextM, putNumM]; simp only [List.append_assoc]⟩
  obtain ⟨c, hcc⟩ := hpre l (putNumM b l.length)
  have h := getNumM_put b c l.length (by omega)
  have e : b ++ encN l.length ++ c = putTextsM b l := by rw [putTextsM, hcc, putNumM, hc]
  rw [e] at h
  unfold getTextsM
  rw [h]
  simp only
  rw [if_pos trivial, if_neg (by omega), Int.toNat_natCast]
  have e2 : b ++ encN l.length = putNumM b l.length := by rw [putNumM, hc]
  rw [e2]
  have := gtsM_ptsM l (putNumM b l.length) [] (putTextsM b l) rfl hs
  rw [this, List.nil_append]
theorem putTextsM_by {b : List Int} (hb : By b) (l : List ByteArray) : By (putTextsM b l) := by
  have : ∀ (l : List ByteArray) (b : List Int), By b → By (ptsM b l) := by
    intro l
    induction l with
    | nil => intro b h; exact h
    | cons x l ih => intro b h; exact ih _ (putTextM_by h x)
  exact this l _ (putNumM_by hb _)
/-! ### one byte turned -/
theorem u8_xor_nat (a b : Nat) (ha : a < 256) (hb : b < 256) : Go.bits .xor .u8 (a : Int) (b : Int) = ((a ^^^ b : Nat) : Int) := by
  show IntKind.u8.wrap (((BitVec.ofInt 8 (a : Int)) ^^^ (BitVec.ofInt 8 (b : Int))).toNat : Int) = _
  have h1 : ∀ n : Nat, n < 256 → (BitVec.ofInt 8 (n : Int)).toNat = n := fun n hn => by
    rw [BitVec.ofInt_natCast, BitVec.toNat_ofNat]
    exact Nat.mod_eq_of_lt hn
  rw [BitVec.toNat_xor, h1 a ha, h1 b hb]
  have h_ : a ^^^ b < 2 ^ 8 := Nat.xor_lt_two_pow (by omega) (by omega)
  rw [IntKind.wrap_u8]
  omega
theorem xor_inj {a b c : Nat} (h : a ^^^ c = b ^^^ c) : a = b := by
  have h1 : (a ^^^ c) ^^^ c = (b ^^^ c) ^^^ c := by rw [h]
  rwa [Nat.xor_assoc, Nat.xor_assoc, Nat.xor_self, Nat.xor_zero, Nat.xor_zero] at h1
theorem hashB_mul {x y : Nat} (hx : x < 4294967296) (hy : y < 4294967296) (h : ((x : Int) * 16777619) % 4294967296 = ((y : Int) * 16777619) % 4294967296) : x = y := by
  obtain ⟨k, hk⟩ : ∃ k : Int, ((x : Int) - (y : Int)) * 16777619 = 4294967296 * k := by
    have h1 := Int.emod_eq_emod_iff_emod_sub_eq_zero.1 h
    obtain ⟨k, hk⟩ := Int.dvd_of_emod_eq_zero h1
    exact ⟨k, by rw [Int.sub_mul]; exact hk⟩
  clear h
  obtain ⟨d, hd⟩ : ∃ d : Int, (x : Int) - (y : Int) = d := ⟨_, rfl⟩
  rw [hd] at hk
  have h2 : d = 4294967296 * (899433627 * k - 3513497 * d) := by omega
  obtain ⟨z, hz⟩ : ∃ z : Int, 899433627 * k - 3513497 * d = z := ⟨_, rfl⟩
  rw [hz] at h2
  clear hz hk
  omega
theorem hashB_left {h h' b : Int} (h0 : 0 ≤ h ∧ h < 4294967296) (h1 : 0 ≤ h' ∧ h' < 4294967296) (hb : 0 ≤ b ∧ b < 256) (e : hashB h b = hashB h' b) : h = h' := by
  unfold hashB at e
  have := xor_inj (hashB_mul (xor32_lt _ _ (by omega) (by omega)) (xor32_lt _ _ (by omega) (by omega)) e)
  omega
theorem hashB_right {h b c : Int} (h0 : 0 ≤ h ∧ h < 4294967296) (hb : 0 ≤ b ∧ b < 256) (hc : 0 ≤ c ∧ c < 256) (e : hashB h b = hashB h c) : b = c := by
  unfold hashB at e
  have := hashB_mul (xor32_lt _ _ (by omega) (by omega)) (xor32_lt _ _ (by omega) (by omega)) e
  rw [Nat.xor_comm h.toNat, Nat.xor_comm h.toNat] at this
  have := xor_inj this
  omega
theorem hashL_inj : ∀ (l : List Int) (h h' : Int), By l → (0 ≤ h ∧ h < 4294967296) → (0 ≤ h' ∧ h' < 4294967296) → hashL l h = hashL l h' → h = h' := by
  intro l
  induction l with
  | nil => intro h h' _ _ _ e; exact e
  | cons b l ih =>
    intro h h' hb h0 h1 e
    exact hashB_left h0 h1 (hb b List.mem_cons_self) (ih (hashB h b) (hashB h' b) (fun x hx => hb x (List.mem_cons_of_mem _ hx)) (hashB_range h b) (hashB_range h' b) e)
theorem hashL_set {l : List Int} (hb : By l) {i : Nat} (hi : i < l.length) {v : Int} (hv : 0 ≤ v ∧ v < 256) (hne : v ≠ l[i]) (h : Int) (h0 : 0 ≤ h ∧ h < 4294967296) : hashL (l.set i v) h ≠ hashL l h := by
  intro e
  have e1 : l = l.take i ++ l[i] :: l.drop (i + 1) := by rw [← List.drop_eq_getElem_cons hi, List.take_append_drop]
  have e2 : l.set i v = l.take i ++ v :: l.drop (i + 1) := by rw [List.set_eq_take_append_cons_drop, if_pos hi]
  have hr := hashL_range (l.take i) h h0.1 h0.2
  have e3 : hashL (l.take i ++ v :: l.drop (i + 1)) h = hashL (l.drop (i + 1)) (hashB (hashL (l.take i) h) v) := by unfold hashL; rw [List.foldl_append]; rfl
  have e4 : hashL (l.take i ++ l[i] :: l.drop (i + 1)) h = hashL (l.drop (i + 1)) (hashB (hashL (l.take i) h) l[i]) := by unfold hashL; rw [List.foldl_append]; rfl
  rw [e2, e3] at e
  have e5 := hashL_inj _ _ _ (fun x hx => hb x (List.mem_of_mem_drop hx)) (hashB_range _ _) (hashB_range _ _) (e.trans ((congrArg (fun q => hashL q h) e1).trans e4))
  exact hne (hashB_right hr hv (hb _ (List.getElem_mem hi)) e5)
theorem bytesOf_strOf {l : List Int} (h : By l) : bytesOf (strOfNums l) = l := by
  unfold bytesOf strOfNums
  show List.map _ (List.map _ l) = l
  rw [List.map_map]
  have : ∀ x ∈ l, ((fun b : UInt8 => (b.toNat : Int)) ∘ fun n : Int => UInt8.ofNat n.toNat) x = x := by
    intro x hx
    have := h x hx
    simp only [Function.comp]
    rw [UInt8.toNat_ofNat']
    omega
  rw [List.map_congr_left this, List.map_id']
theorem turned (a : Int) (ha : 0 ≤ a ∧ a < 256) (j : Int) (hj : 0 ≤ j ∧ j < 256) : 0 ≤ IntKind.u64.wrap (Int.tmod j 8) ∧ Go.bits .xor .u8 a (shl .u8 1 (IntKind.u64.wrap (Int.tmod j 8))) ≠ a ∧ 0 ≤ Go.bits .xor .u8 a (shl .u8 1 (IntKind.u64.wrap (Int.tmod j 8))) ∧ Go.bits .xor .u8 a (shl .u8 1 (IntKind.u64.wrap (Int.tmod j 8))) < 256 := by
  have hm0 := Int.tmod_nonneg 8 hj.1
  have hm1 := Int.tmod_lt_of_pos j (show (0 : Int) < 8 by omega)
  have hw : IntKind.u64.wrap (Int.tmod j 8) = Int.tmod j 8 := by rw [IntKind.wrap_u64]; omega
  rw [hw]
  generalize Int.tmod j 8 = m at hm0 hm1
  obtain ⟨n, rfl⟩ := Int.eq_ofNat_of_zero_le hm0
  have key : ∃ q : Nat, shl .u8 1 (n : Int) = (q : Int) ∧ 0 < q ∧ q < 256 := by
    have : n = 0 ∨ n = 1 ∨ n = 2 ∨ n = 3 ∨ n = 4 ∨ n = 5 ∨ n = 6 ∨ n = 7 := by omega
    rcases this with rfl | rfl | rfl | rfl | rfl | rfl | rfl | rfl
    · exact ⟨1, by decide, by omega, by omega⟩
    · exact ⟨2, by decide, by omega, by omega⟩
    · exact ⟨4, by decide, by omega, by omega⟩
    · exact ⟨8, by decide, by omega, by omega⟩
    · exact ⟨16, by decide, by omega, by omega⟩
    · exact ⟨32, by decide, by omega, by omega⟩
    · exact ⟨64, by decide, by omega, by omega⟩
    · exact ⟨128, by decide, by omega, by omega⟩
  obtain ⟨q, hq, hq0, hq1⟩ := key
  obtain ⟨c, rfl⟩ := Int.eq_ofNat_of_zero_le ha.1
  rw [hq, u8_xor_nat c q (by omega) hq1]
  have hlt : c ^^^ q < 2 ^ 8 := Nat.xor_lt_two_pow (by omega) (by omega)
  refine ⟨by omega, fun h => ?_, by omega, by omega⟩
  have h1 : c ^^^ q = c ^^^ 0 := by rw [Nat.xor_zero]; omega
  rw [Nat.xor_comm c q, Nat.xor_comm c 0] at h1
  have := xor_inj h1
  omega
theorem pure_holds : Pure := by
  intro s h0
  by_cases c : (s.length : Int) > 1048576
  · refine ⟨0, ?_⟩
    unfold laws_FnTexts.f laws_big.f
    rw [Option.bind_some, if_pos (by simpa using c)]
  have hbs : By s := fun x hx => wf_u8 (h0.2 x hx)
  obtain ⟨b, l, e, hb, hbl, hll, hls⟩ := DrawPutTexts_some s (by omega)
  obtain ⟨K1, e1⟩ := Ev.get e
  have hsum : sumSz l ≤ 15 * l.length := by
    clear e1 e
    unfold sumSz
    induction l with
    | nil => simp
    | cons x l ih =>
      have := ih (by simp at hll; omega) (fun t h => hls t (List.mem_cons_of_mem _ h)) 
      have := hls x List.mem_cons_self
      simp only [List.map_cons, List.sum_cons, List.length_cons]
      omega
  have hpl := putTextsM_len b l
  obtain ⟨K2, e2⟩ := Ev.get (impl_PutTexts_ev b l (by omega) (by omega) (by omega))
  obtain ⟨K3, e3⟩ := Ev.get (impl_GetTexts_ev (putTextsM b l) (putTextsM_by hb l) (by omega) (b.length : Int) (by omega))
  rw [getTextsM_put b l (by omega) (fun t h => by have := hls t h; omega)] at e3
  obtain ⟨t, e4, ht⟩ := DrawHash_some s (by omega)
  obtain ⟨K4, e4⟩ := Ev.get e4
  obtain ⟨y, hy⟩ : ∃ y, y = bytesOf t ++ [7] := ⟨_, rfl⟩
  have hyb : By y := by rw [hy]; exact By.app (By.bytesOf t) (By.one (by omega) (by omega))
  have hyl : y.length = t.size + 1 := by rw [hy, List.length_append, bytesOf_length, List.length_singleton]
  obtain ⟨K5, e5⟩ := Ev.get (impl_Hash_ev (strOfNums y) (by rw [strOfNums_size]; omega))
  obtain ⟨i, ei, hi0, hi1⟩ := at_some hbs (by omega) 2 (by omega)
  obtain ⟨j, ej, hj0, hj1⟩ := at_some hbs (by omega) 3 (by omega)
  obtain ⟨K6, e6⟩ := Ev.get (sameTexts_ev l (by omega))
  have hq0 := Int.tmod_nonneg (y.length : Int) hi0
  have hq1 := Int.tmod_lt_of_pos i (show (0 : Int) < (y.length : Int) by omega)
  obtain ⟨q, hq⟩ : ∃ q : Nat, Int.tmod i (y.length : Int) = (q : Int) := Int.eq_ofNat_of_zero_le hq0
  rw [hq] at hq0 hq1
  have hqy : q < y.length := by omega
  have hrd := hyb.rd (q : Int)
  obtain ⟨ht0, ht1, ht2, ht3⟩ := turned (rd y (q : Int)) hrd j ⟨hj0, hj1⟩
  obtain ⟨v, hv⟩ : ∃ v, v = Go.bits .xor .u8 (rd y (q : Int)) (shl .u8 1 (IntKind.u64.wrap (Int.tmod j 8))) := ⟨_, rfl⟩
  rw [← hv] at ht1 ht2 ht3
  have hyb2 : By (y.set q v) := fun x hx => by
    rcases List.mem_or_eq_of_mem_set hx with h1 | h1
    · exact hyb x h1
    · rw [h1]; exact ⟨ht2, ht3⟩
  obtain ⟨K7, e7⟩ := Ev.get (impl_Hash_ev (strOfNums (y.set q v)) (by rw [strOfNums_size, List.length_set]; omega))
  have hr5 := hashM_range (strOfNums y)
  have hne : hashM (strOfNums (y.set q v)) ≠ hashM (strOfNums y) := by
    unfold hashM
    rw [bytesOf_strOf hyb2, bytesOf_strOf hyb]
    exact hashL_set hyb hqy ⟨ht2, ht3⟩ (by rw [← rd_nat y q hqy]; exact ht1) _ (by omega)
  refine ⟨K1 + K2 + K3 + K4 + K5 + K6 + K7, ?_⟩
  unfold laws_FnTexts.f laws_big.f
  rw [Option.bind_some, if_neg (by simpa using c), e1 _ (by omega), Option.bind_some]
  dsimp only
  rw [e2 _ (by omega), Option.bind_some, e3 _ (by omega), Option.bind_some]
  dsimp only
  rw [if_pos rfl, if_pos rfl, e4 _ (by omega), Option.bind_some, if_pos (by omega), ← hy, e5 _ (by omega), Option.bind_some]
  rw [show laws_at.f s 2 = some i from ei, Option.bind_some, show laws_at.f s 3 = some j from ej, Option.bind_some]
  unfold laws_FnTexts.r
  rw [hq, if_pos hq0, if_pos hq1, if_pos ht0, e6 _ (by omega), Option.bind_some, if_pos rfl, if_pos hr5.1, if_pos (by omega), Int.toNat_natCast, ← hv, e7 _ (by omega), Option.bind_some]
  congr 1
  simpa using hne
end Go.Proofs.Ythkaifddpjjmaaa.fnTexts
namespace Go.Proofs.Ythkaifddpjjmaaa
theorem fnTexts_holds : Rows.FnTextsSaid := fnTexts.proved fnTexts.pure_holds
#print axioms fnTexts_holds
end Go.Proofs.Ythkaifddpjjmaaa
