/- IsChoiceTable: the program tells of every number and list whether it is a table, as the reference does; no condition. -/
import Derived.Test.YtpdgdjgklcfjcaaPFnExactIsChoiceTablex2
namespace Go.Proofs.Ytpdgdjgklcfjcaa.Pure
open Go.RowKit Go.Proofs.Ytpdgdjgklcfjcaa.PFnExactIsChoiceTable Go.Proofs.YtpdgdjgklcfjcaaW.PrintWords Go.Proofs.YtpdgdjgklcfjcaaW.PrintLast Go.Proofs.YtpdgdjgklcfjcaaW.PrintMore
set_option linter.unusedVariables false
set_option linter.unusedSimpArgs false

theorem wrap_ok {x : Int} (h0 : -9223372036854775808 ≤ x) (h1 : x < 9223372036854775808) : wrap64 x = x := by unfold wrap64; omega
theorem wf_bounds {x : Int} (h : (Lit.int .i64 x).wf = true) : -9223372036854775808 ≤ x ∧ x < 9223372036854775808 := by
  have e : IntKind.i64.min ≤ x ∧ x ≤ 9223372036854775807 := by simpa [Lit.wf] using h
  have m : IntKind.i64.min = -9223372036854775808 := by decide
  omega
theorem rd_nat (l : List Int) (i : Nat) : rd l (i : Int) = l.getD i 0 := by simp [rd]

theorem toIntS_l0 (l : List Int) (hl : l.length ≤ 4611686018427387904) : ∀ (d k i : Nat) (x : List Int), i + d = l.length → d < k → x.length = l.length → (∀ j, j < i → x[j]? = l[j]?) → laws_toIntS.l0 k l x (i : Int) = some l := by
  intro d
  induction d with
  | zero =>
    intro k i x h hk hx hj
    obtain ⟨k, rfl⟩ : ∃ m, k = m + 1 := ⟨k - 1, by omega⟩
    simp only [laws_toIntS.l0]
    rw [if_neg (by omega)]
    congr 1
    apply List.ext_getElem?
    intro j
    by_cases hji : j < i
    · exact hj j hji
    · rw [List.getElem?_eq_none (by omega), List.getElem?_eq_none (by omega)]
  | succ d ih =>
    intro k i x h hk hx hj
    obtain ⟨k, rfl⟩ : ∃ m, k = m + 1 := ⟨k - 1, by omega⟩
    simp only [laws_toIntS.l0]
    rw [if_pos (by omega), if_pos (by omega), if_pos (by omega), wrap_ok (by omega) (by omega)]
    have e : ((i : Int) + 1) = ((i + 1 : Nat) : Int) := by omega
    rw [e]
    refine ih k (i + 1) _ (by omega) (by omega) (by simpa using hx) ?_
    intro j hji
    have e2 : (i : Int).toNat = i := by omega
    rw [e2, List.getElem?_set]
    by_cases hj2 : i = j
    · subst hj2
      rw [if_pos rfl, if_pos (by omega), rd_nat, List.getElem?_eq_getElem (by omega)]
      simp
      rw [List.getElem?_eq_getElem (by omega)]
      rfl
    · rw [if_neg hj2]
      exact hj j (by omega)
theorem toIntS_k (l : List Int) (hl : l.length ≤ 1048576) (k : Nat) (hk : l.length < k) : laws_toIntS.f k l = some l := by
  unfold laws_toIntS.f
  rw [if_pos (by omega), if_pos (by omega)]
  exact toIntS_l0 l (by omega) l.length k 0 _ (by omega) hk (by simp) (by intro j hj; omega)
theorem toIntS_ev (l : List Int) (hl : l.length ≤ 1048576) : Ev (fun k => laws_toIntS.f k l) l := ⟨l.length + 1, fun k hk => toIntS_k l hl k (by omega)⟩

theorem eqIntS_l0 (l : List Int) (hl : l.length ≤ 4611686018427387904) : ∀ (d k i : Nat), i + d = l.length → d < k → laws_eqIntS.l0 k l l (i : Int) = some true := by
  intro d
  induction d with
  | zero =>
    intro k i h hk
    obtain ⟨k, rfl⟩ : ∃ m, k = m + 1 := ⟨k - 1, by omega⟩
    simp only [laws_eqIntS.l0]
    rw [if_neg (by omega)]
  | succ d ih =>
    intro k i h hk
    obtain ⟨k, rfl⟩ : ∃ m, k = m + 1 := ⟨k - 1, by omega⟩
    simp only [laws_eqIntS.l0]
    rw [if_pos (by omega), if_pos (by omega), if_pos (by omega), if_true, wrap_ok (by omega) (by omega)]
    have e : ((i : Int) + 1) = ((i + 1 : Nat) : Int) := by omega
    rw [e]
    exact ih k (i + 1) (by omega) (by omega)
theorem eqIntS_k (l : List Int) (hl : l.length ≤ 4611686018427387904) (k : Nat) (hk : l.length < k) : laws_eqIntS.f k l l = some true := by
  unfold laws_eqIntS.f
  rw [if_pos rfl]
  exact eqIntS_l0 l hl l.length k 0 (by omega) hk
theorem eqIntS_ev (l : List Int) (hl : l.length ≤ 4611686018427387904) : Ev (fun k => laws_eqIntS.f k l l) true := ⟨l.length + 1, fun k hk => eqIntS_k l hl k (by omega)⟩

theorem within_eq (a b c : Int) : impl_within.f a b c = some (decide (b ≤ a ∧ a ≤ c)) := by
  unfold impl_within.f
  by_cases h : a ≥ b <;> simp [h] <;> omega
theorem l1In_eq (a b c : Int) : spec_l1In.f a b c = some (decide (b ≤ a ∧ a ≤ c)) := by
  unfold spec_l1In.f
  by_cases h : a ≥ b <;> simp [h] <;> omega

/-! Sets as numbers. -/
def andn (a b : Nat) : Nat := a ^^^ (a &&& b)
theorem andn_bit (a b i : Nat) : (andn a b).testBit i = (a.testBit i && !b.testBit i) := by
  unfold andn
  rw [Nat.testBit_xor, Nat.testBit_and]
  cases a.testBit i <;> cases b.testBit i <;> rfl
theorem wrap_i64_nat (n : Nat) (h : n < 2 ^ 63) : IntKind.i64.wrap (n : Int) = (n : Int) := by
  rw [IntKind.wrap_i64]
  have : (n : Int) < 9223372036854775808 := by omega
  omega
theorem ofInt_toNat (n : Nat) (h : n < 2 ^ 63) : (BitVec.ofInt 64 (n : Int)).toNat = n := by
  rw [BitVec.ofInt_natCast, BitVec.toNat_ofNat, Nat.mod_eq_of_lt (by omega)]
theorem and_nat (a b : Nat) (ha : a < 2 ^ 63) (hb : b < 2 ^ 63) : Go.bits .and .i64 (a : Int) (b : Int) = ((a &&& b : Nat) : Int) := by
  unfold Go.bits
  show IntKind.i64.wrap ((BitVec.ofInt 64 (a : Int) &&& BitVec.ofInt 64 (b : Int)).toNat : Int) = _
  rw [BitVec.toNat_and, ofInt_toNat a ha, ofInt_toNat b hb]
  exact wrap_i64_nat _ (Nat.lt_of_le_of_lt Nat.and_le_left ha)
theorem or_nat (a b : Nat) (ha : a < 2 ^ 63) (hb : b < 2 ^ 63) : Go.bits .or .i64 (a : Int) (b : Int) = ((a ||| b : Nat) : Int) := by
  unfold Go.bits
  show IntKind.i64.wrap ((BitVec.ofInt 64 (a : Int) ||| BitVec.ofInt 64 (b : Int)).toNat : Int) = _
  rw [BitVec.toNat_or, ofInt_toNat a ha, ofInt_toNat b hb]
  exact wrap_i64_nat _ (Nat.or_lt_two_pow ha hb)
theorem xor_nat (a b : Nat) (ha : a < 2 ^ 63) (hb : b < 2 ^ 63) : Go.bits .xor .i64 (a : Int) (b : Int) = ((a ^^^ b : Nat) : Int) := by
  unfold Go.bits
  show IntKind.i64.wrap ((BitVec.ofInt 64 (a : Int) ^^^ BitVec.ofInt 64 (b : Int)).toNat : Int) = _
  rw [BitVec.toNat_xor, ofInt_toNat a ha, ofInt_toNat b hb]
  exact wrap_i64_nat _ (Nat.xor_lt_two_pow ha hb)
theorem andn_le (a b : Nat) : andn a b ≤ a := Nat.le_of_testBit fun i h => by
  rw [andn_bit] at h
  cases h1 : a.testBit i
  · simp [h1] at h
  · rfl
theorem andNot_nat (a b : Nat) (ha : a < 2 ^ 63) (hb : b < 2 ^ 63) : Go.bits .andNot .i64 (a : Int) (b : Int) = ((andn a b : Nat) : Int) := by
  unfold Go.bits
  show IntKind.i64.wrap ((BitVec.ofInt 64 (a : Int) &&& ~~~ BitVec.ofInt 64 (b : Int)).toNat : Int) = _
  have e : (BitVec.ofInt 64 (a : Int) &&& ~~~ BitVec.ofInt 64 (b : Int)).toNat = andn a b := by
    apply Nat.eq_of_testBit_eq
    intro i
    rw [andn_bit, BitVec.toNat_and, Nat.testBit_and, ofInt_toNat a ha, BitVec.testBit_toNat, BitVec.getLsbD_not, BitVec.ofInt_natCast, BitVec.getLsbD_ofNat]
    by_cases hi : i < 64
    · rw [decide_eq_true hi]
      simp only [Bool.true_and]
    · have : a.testBit i = false := Nat.testBit_lt_two_pow (Nat.lt_of_lt_of_le ha (Nat.pow_le_pow_right (by omega) (by omega)))
      simp [this]
  rw [e]
  exact wrap_i64_nat _ (Nat.lt_of_le_of_lt (andn_le a b) ha)
theorem andn_zero (a b : Nat) : andn a b = 0 ↔ ∀ i, a.testBit i = true → b.testBit i = true := by
  constructor
  · intro h i hi
    have := andn_bit a b i
    rw [h, hi] at this
    cases hb : b.testBit i
    · simp [hb] at this
    · rfl
  · intro h
    apply Nat.eq_of_testBit_eq
    intro i
    rw [andn_bit]
    cases ha : a.testBit i
    · simp
    · simp [h i ha]
theorem andn_zero_le {a b : Nat} (h : andn a b = 0) : a ≤ b := Nat.le_of_testBit fun i hi => (andn_zero a b).1 h i hi
theorem andNot_le {p i : Int} (h0 : 0 ≤ p) (h1 : 0 ≤ i) (hp : p < 9223372036854775808) (hi : i < 9223372036854775808) (h : Go.bits .andNot .i64 p i = 0) : p ≤ i := by
  obtain ⟨a, rfl⟩ := Int.eq_ofNat_of_zero_le h0
  obtain ⟨b, rfl⟩ := Int.eq_ofNat_of_zero_le h1
  rw [andNot_nat a b (by omega) (by omega)] at h
  have := andn_zero_le (a := a) (b := b) (by omega)
  omega

/-- What a table has for the set j. -/
def GoodPart (j : Nat) (p : Int) : Prop := 0 ≤ p ∧ Go.bits .andNot .i64 p (j : Int) = 0 ∧ (p = 0 → j = 0)
theorem isChoice_l0 (l : List Int) (hl : l.length ≤ 4611686018427387904) (hw : ∀ x ∈ l, x < 9223372036854775808) : ∀ (d k i : Nat), i + d = l.length → d < k →
    ∃ b, impl_isChoice.l0 k l (l.length : Int) (i : Int) = some b ∧ spec_cfGood.l0 k l (l.length : Int) (i : Int) = some b ∧ (b = true ↔ ∀ j, i ≤ j → j < l.length → GoodPart j (l.getD j 0)) := by
  intro d
  induction d with
  | zero =>
    intro k i h hk
    obtain ⟨k, rfl⟩ : ∃ m, k = m + 1 := ⟨k - 1, by omega⟩
    simp only [impl_isChoice.l0, spec_cfGood.l0]
    exact ⟨true, by rw [if_neg (by omega)], by rw [if_neg (by omega)], by simp; intro j h1 h2; omega⟩
  | succ d ih =>
    intro k i h hk
    obtain ⟨k, rfl⟩ : ∃ m, k = m + 1 := ⟨k - 1, by omega⟩
    obtain ⟨b, hb1, hb2, hb3⟩ := ih k (i + 1) (by omega) (by omega)
    simp only [impl_isChoice.l0, spec_cfGood.l0]
    have e : ((i : Int) + 1) = ((i + 1 : Nat) : Int) := by omega
    have c1 : (i : Int) < (l.length : Int) := by omega
    have c2 : 0 ≤ (i : Int) := by omega
    simp only [c1, c2, if_true, wrap_ok (show -9223372036854775808 ≤ (i : Int) + 1 by omega) (show (i : Int) + 1 < 9223372036854775808 by omega), l1In_eq]
    rw [e, hb1, hb2]
    have hp : rd l (i : Int) < 9223372036854775808 := by
      rw [rd_nat, List.getD_eq_getElem?_getD, List.getElem?_eq_getElem (by omega)]
      exact hw _ (List.getElem_mem _)
    have hr : rd l (i : Int) = l.getD i 0 := rd_nat l i
    have bad : ¬ GoodPart i (l.getD i 0) → (false = true ↔ ∀ j, i ≤ j → j < l.length → GoodPart j (l.getD j 0)) := fun hn => ⟨fun hh => (by cases hh), fun hh => absurd (hh i (Nat.le_refl _) (by omega)) hn⟩
    have good : GoodPart i (l.getD i 0) → (b = true ↔ ∀ j, i ≤ j → j < l.length → GoodPart j (l.getD j 0)) := fun hg => hb3.trans ⟨fun hh j h1 h2 => if e : j = i then e ▸ hg else hh j (by omega) h2, fun hh j h1 h2 => hh j (by omega) h2⟩
    rw [← hr] at bad good
    generalize rd l (i : Int) = p at hp bad good ⊢
    simp only [Option.bind_some]
    by_cases h1 : Go.bits .andNot .i64 p (i : Int) = 0
    · simp only [h1, if_true]
      by_cases h2 : p < 0
      · exact ⟨false, by rw [if_pos h2], by rw [if_neg (by simp; omega)], bad (fun hg => by have := hg.1; omega)⟩
      · by_cases h3 : p = 0
        · by_cases h4 : (i : Int) = 0
          · refine ⟨b, ?_, ?_, good ⟨by omega, h1, fun _ => by omega⟩⟩
            · rw [if_neg h2, if_pos h3, if_pos h4]
            · rw [if_pos (by simp; omega), if_pos h3, if_neg (by omega)]
          · refine ⟨false, ?_, ?_, bad (fun hg => h4 (by have := hg.2.2 h3; omega))⟩
            · rw [if_neg h2, if_pos h3, if_neg h4]
            · rw [if_pos (by simp; omega), if_pos h3, if_pos (by omega)]
        · have h5 : p ≤ (i : Int) := andNot_le (by omega) (by omega) hp (by omega) h1
          refine ⟨b, ?_, ?_, good ⟨by omega, h1, fun h => absurd h h3⟩⟩
          · rw [if_neg h2, if_neg h3]
          · rw [if_pos (by simp; omega), if_neg h3]
    · refine ⟨false, by rw [if_neg h1], ?_, bad (fun hg => h1 hg.2.1)⟩
      by_cases h2 : 0 ≤ p ∧ p ≤ (i : Int)
      · rw [if_pos (by simpa using h2), if_neg h1]
      · rw [if_neg (by simpa using h2)]
/-- A table for n. -/
def IsChoice (n : Int) (l : List Int) : Prop := (0 ≤ n ∧ n ≤ 4) ∧ (l.length : Int) = shl .i64 1 n ∧ ∀ j, j < l.length → GoodPart j (l.getD j 0)
/-- Is a list a table for n? -/
theorem isChoice_k (n : Int) (l : List Int) (hl : l.length ≤ 1048576) (hw : ∀ x ∈ l, x < 9223372036854775808) (k : Nat) (hk : l.length + 1 < k) :
    ∃ b, impl_isChoice.f k n l = some b ∧ spec_cfGood.f k n l = some b ∧ (b = true ↔ IsChoice n l) := by
  obtain ⟨k, rfl⟩ : ∃ m, k = m + 1 := ⟨k - 1, by omega⟩
  unfold impl_isChoice.f spec_cfGood.f spec_cfSize.f IsChoice
  simp only [within_eq, l1In_eq, Option.bind_some]
  by_cases h : 0 ≤ n ∧ n ≤ 4
  · simp only [h, and_self, decide_true, if_true, impl_isChoice.j0, spec_cfGood.j0]
    by_cases h2 : (l.length : Int) = shl .i64 1 n
    · rw [if_neg (by simp [h2]), if_neg (by simp [h2])]
      obtain ⟨b, h3, h4, h5⟩ := isChoice_l0 l (by omega) hw l.length k 0 (by omega) (by omega)
      exact ⟨b, h3, h4, h5.trans ⟨fun hh => ⟨trivial, h2, fun j hj => hh j (by omega) hj⟩, fun hh j _ hj => hh.2.2 j hj⟩⟩
    · exact ⟨false, by rw [if_pos (by simpa using h2)], by rw [if_pos (by simpa using h2)], by simp [h2]⟩
  · simp only [h, decide_false, if_neg Bool.false_ne_true]
    exact ⟨false, by simp [impl_isChoice.j0], by simp [spec_cfGood.j0], by simp⟩
theorem shl_pow (n : Nat) (h : n ≤ 4) : shl .i64 1 (n : Int) = ((2 ^ n : Nat) : Int) := by
  rcases (show n = 0 ∨ n = 1 ∨ n = 2 ∨ n = 3 ∨ n = 4 by omega) with h | h | h | h | h <;> subst h <;> decide
theorem IsChoice.len {n : Int} {l : List Int} (h : IsChoice n l) : ∃ m : Nat, m ≤ 4 ∧ n = (m : Int) ∧ l.length = 2 ^ m := by
  obtain ⟨h1, h2, _⟩ := h
  refine ⟨n.toNat, by omega, by omega, ?_⟩
  have e : n = ((n.toNat : Nat) : Int) := by omega
  rw [e, shl_pow _ (by omega)] at h2
  exact_mod_cast h2
theorem IsChoice.part {n : Int} {l : List Int} (hw : ∀ x ∈ l, x < 9223372036854775808) (h : IsChoice n l) (j : Nat) (hj : j < l.length) : ∃ p : Nat, l.getD j 0 = (p : Int) ∧ p ≤ j := by
  obtain ⟨m, hm, _, hlen⟩ := h.len
  obtain ⟨h1, h2, _⟩ := h.2.2 j hj
  obtain ⟨p, hp⟩ := Int.eq_ofNat_of_zero_le h1
  have hp' : l.getD j 0 = (p : Int) := hp
  refine ⟨p, hp', ?_⟩
  have hlt : l.getD j 0 < 9223372036854775808 := by
    rw [List.getD_eq_getElem?_getD, List.getElem?_eq_getElem hj]
    exact hw _ (List.getElem_mem _)
  have := Nat.pow_le_pow_right (n := 2) (by omega) hm
  have := andNot_le (p := l.getD j 0) (i := (j : Int)) h1 (by omega) hlt (by omega) h2
  omega

theorem FnExactIsChoiceTable : laws_FnExactIsChoiceTable.Pure := by
  intro n l _ _ _ hw
  refine ⟨l.length + 3, ?_⟩
  unfold laws_FnExactIsChoiceTable.f
  by_cases h : l.length ≤ 1048576
  · rw [if_neg (by omega)]
    obtain ⟨b, hb1, hb2, _⟩ := isChoice_k n l h (fun x hx => (wf_bounds (hw x hx)).2) (l.length + 3) (by omega)
    have hf : impl_IsChoiceTable.f (l.length + 3) n l = spec_IsChoiceTable.f (l.length + 3) n l := by
      unfold impl_IsChoiceTable.f spec_IsChoiceTable.f spec_cfSize.f
      simp only [within_eq, l1In_eq, Option.bind_some, hb1, hb2]
    have hs : ∃ x y, spec_IsChoiceTable.f (l.length + 3) n l = some (x, y) := by
      unfold spec_IsChoiceTable.f spec_cfSize.f
      simp only [l1In_eq, Option.bind_some, hb2]
      split <;> exact ⟨_, _, rfl⟩
    obtain ⟨x, y, hxy⟩ := hs
    simp only [toIntS_k l h _ (show l.length < l.length + 3 by omega), Option.bind_some, hf, hxy]
    rw [if_neg (by simp)]
    simp only [laws_FnExactIsChoiceTable.j0, bne_self_eq_false]
    rw [if_neg (by simp)]
    simp only [toIntS_k l h _ (show l.length < l.length + 2 by omega), Option.bind_some, eqIntS_k l (by omega) _ (show l.length < l.length + 2 by omega)]
    rfl
  · rw [if_pos (by omega)]

end Go.Proofs.Ytpdgdjgklcfjcaa.Pure
