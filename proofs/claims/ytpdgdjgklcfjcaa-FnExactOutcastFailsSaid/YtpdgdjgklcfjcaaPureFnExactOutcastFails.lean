/- OutcastFails: the program tells of every number and list the first two sets that the reference tells; no condition. -/
import Derived.Test.YtpdgdjgklcfjcaaPFnExactOutcastFailsx3
namespace Go.Proofs.Ytpdgdjgklcfjcaa.Pure
open Go.RowKit Go.Proofs.Ytpdgdjgklcfjcaa.PFnExactOutcastFails Go.Proofs.YtpdgdjgklcfjcaaW.PrintWords Go.Proofs.YtpdgdjgklcfjcaaW.PrintLast Go.Proofs.YtpdgdjgklcfjcaaW.PrintMore
set_option linter.unusedVariables false
set_option linter.unusedSimpArgs false

theorem wrap_ok {x : Int} (h0 : -9223372036854775808 ≤ x) (h1 : x < 9223372036854775808) : wrap64 x = x := by unfold wrap64; omega
theorem wf_bounds {x : Int} (h : (Lit.int .i64 x).wf = true) : -9223372036854775808 ≤ x ∧ x < 9223372036854775808 := by
  have e : IntKind.i64.min ≤ x ∧ x ≤ 9223372036854775807 := by simpa [Lit.wf] using h
  have m : IntKind.i64.min = -9223372036854775808 := by decide
  omega
theorem rd_nat (l : List Int) (i : Nat) : rd l (i : Int) = l.getD i 0 := by simp [rd]

theorem toIntS_l0 (l : List Int) (hl : l.length ≤ 4611686018427387904) : ∀ (d k i : Nat) (x : List Int), i + d = l.length → d < k → x.length = l.length → (∀ j, j < i → x[j]? = l[j]?) → laws_toIntS.l0 k l x (i : Int) = some l := by
  intro d
  induction d with
  | zero =>
    intro k i x h hk hx hj
    obtain ⟨k, rfl⟩ : ∃ m, k = m + 1 := ⟨k - 1, by omega⟩
    simp only [laws_toIntS.l0]
    rw [if_neg (by omega)]
    congr 1
    apply List.ext_getElem?
    intro j
    by_cases hji : j < i
    · exact hj j hji
    · rw [List.getElem?_eq_none (by omega), List.getElem?_eq_none (by omega)]
  | succ d ih =>
    intro k i x h hk hx hj
    obtain ⟨k, rfl⟩ : ∃ m, k = m + 1 := ⟨k - 1, by omega⟩
    simp only [laws_toIntS.l0]
    rw [if_pos (by omega), if_pos (by omega), if_pos (by omega), wrap_ok (by omega) (by omega)]
    have e : ((i : Int) + 1) = ((i + 1 : Nat) : Int) := by omega
    rw [e]
    refine ih k (i + 1) _ (by omega) (by omega) (by simpa using hx) ?_
    intro j hji
    have e2 : (i : Int).toNat = i := by omega
    rw [e2, List.getElem?_set]
    by_cases hj2 : i = j
    · subst hj2
      rw [if_pos rfl, if_pos (by omega), rd_nat, List.getElem?_eq_getElem (by omega)]
      simp
      rw [List.getElem?_eq_getElem (by omega)]
      rfl
    · rw [if_neg hj2]
      exact hj j (by omega)
theorem toIntS_k (l : List Int) (hl : l.length ≤ 1048576) (k : Nat) (hk : l.length < k) : laws_toIntS.f k l = some l := by
  unfold laws_toIntS.f
  rw [if_pos (by omega), if_pos (by omega)]
  exact toIntS_l0 l (by omega) l.length k 0 _ (by omega) hk (by simp) (by intro j hj; omega)
theorem toIntS_ev (l : List Int) (hl : l.length ≤ 1048576) : Ev (fun k => laws_toIntS.f k l) l := ⟨l.length + 1, fun k hk => toIntS_k l hl k (by omega)⟩

theorem eqIntS_l0 (l : List Int) (hl : l.length ≤ 4611686018427387904) : ∀ (d k i : Nat), i + d = l.length → d < k → laws_eqIntS.l0 k l l (i : Int) = some true := by
  intro d
  induction d with
  | zero =>
    intro k i h hk
    obtain ⟨k, rfl⟩ : ∃ m, k = m + 1 := ⟨k - 1, by omega⟩
    simp only [laws_eqIntS.l0]
    rw [if_neg (by omega)]
  | succ d ih =>
    intro k i h hk
    obtain ⟨k, rfl⟩ : ∃ m, k = m + 1 := ⟨k - 1, by omega⟩
    simp only [laws_eqIntS.l0]
    rw [if_pos (by omega), if_pos (by omega), if_pos (by omega), if_true, wrap_ok (by omega) (by omega)]
    have e : ((i : Int) + 1) = ((i + 1 : Nat) : Int) := by omega
    rw [e]
    exact ih k (i + 1) (by omega) (by omega)
theorem eqIntS_k (l : List Int) (hl : l.length ≤ 4611686018427387904) (k : Nat) (hk : l.length < k) : laws_eqIntS.f k l l = some true := by
  unfold laws_eqIntS.f
  rw [if_pos rfl]
  exact eqIntS_l0 l hl l.length k 0 (by omega) hk
theorem eqIntS_ev (l : List Int) (hl : l.length ≤ 4611686018427387904) : Ev (fun k => laws_eqIntS.f k l l) true := ⟨l.length + 1, fun k hk => eqIntS_k l hl k (by omega)⟩

theorem within_eq (a b c : Int) : impl_within.f a b c = some (decide (b ≤ a ∧ a ≤ c)) := by
  unfold impl_within.f
  by_cases h : a ≥ b <;> simp [h] <;> omega
theorem l1In_eq (a b c : Int) : spec_l1In.f a b c = some (decide (b ≤ a ∧ a ≤ c)) := by
  unfold spec_l1In.f
  by_cases h : a ≥ b <;> simp [h] <;> omega

/-! Sets as numbers. -/
def andn (a b : Nat) : Nat := a ^^^ (a &&& b)
theorem andn_bit (a b i : Nat) : (andn a b).testBit i = (a.testBit i && !b.testBit i) := by
  unfold andn
  rw [Nat.testBit_xor, Nat.testBit_and]
  cases a.testBit i <;> cases b.testBit i <;> rfl
theorem wrap_i64_nat (n : Nat) (h : n < 2 ^ 63) : IntKind.i64.wrap (n : Int) = (n : Int) := by
  rw [IntKind.wrap_i64]
  have : (n : Int) < 9223372036854775808 := by omega
  omega
theorem ofInt_toNat (n : Nat) (h : n < 2 ^ 63) : (BitVec.ofInt 64 (n : Int)).toNat = n := by
  rw [BitVec.ofInt_natCast, BitVec.toNat_ofNat, Nat.mod_eq_of_lt (by omega)]
theorem and_nat (a b : Nat) (ha : a < 2 ^ 63) (hb : b < 2 ^ 63) : Go.bits .and .i64 (a : Int) (b : Int) = ((a &&& b : Nat) : Int) := by
  unfold Go.bits
  show IntKind.i64.wrap ((BitVec.ofInt 64 (a : Int) &&& BitVec.ofInt 64 (b : Int)).toNat : Int) = _
  rw [BitVec.toNat_and, ofInt_toNat a ha, ofInt_toNat b hb]
  exact wrap_i64_nat _ (Nat.lt_of_le_of_lt Nat.and_le_left ha)
theorem or_nat (a b : Nat) (ha : a < 2 ^ 63) (hb : b < 2 ^ 63) : Go.bits .or .i64 (a : Int) (b : Int) = ((a ||| b : Nat) : Int) := by
  unfold Go.bits
  show IntKind.i64.wrap ((BitVec.ofInt 64 (a : Int) ||| BitVec.ofInt 64 (b : Int)).toNat : Int) = _
  rw [BitVec.toNat_or, ofInt_toNat a ha, ofInt_toNat b hb]
  exact wrap_i64_nat _ (Nat.or_lt_two_pow ha hb)
theorem xor_nat (a b : Nat) (ha : a < 2 ^ 63) (hb : b < 2 ^ 63) : Go.bits .xor .i64 (a : Int) (b : Int) = ((a ^^^ b : Nat) : Int) := by
  unfold Go.bits
  show IntKind.i64.wrap ((BitVec.ofInt 64 (a : Int) ^^^ BitVec.ofInt 64 (b : Int)).toNat : Int) = _
  rw [BitVec.toNat_xor, ofInt_toNat a ha, ofInt_toNat b hb]
  exact wrap_i64_nat _ (Nat.xor_lt_two_pow ha hb)
theorem andn_le (a b : Nat) : andn a b ≤ a := Nat.le_of_testBit fun i h => by
  rw [andn_bit] at h
  cases h1 : a.testBit i
  · simp [h1] at h
  · rfl
theorem andNot_nat (a b : Nat) (ha : a < 2 ^ 63) (hb : b < 2 ^ 63) : Go.bits .andNot .i64 (a : Int) (b : Int) = ((andn a b : Nat) : Int) := by
  unfold Go.bits
  show IntKind.i64.wrap ((BitVec.ofInt 64 (a : Int) &&& ~~~ BitVec.ofInt 64 (b : Int)).toNat : Int) = _
  have e : (BitVec.ofInt 64 (a : Int) &&& ~~~ BitVec.ofInt 64 (b : Int)).toNat = andn a b := by
    apply Nat.eq_of_testBit_eq
    intro i
    rw [andn_bit, BitVec.toNat_and, Nat.testBit_and, ofInt_toNat a ha, BitVec.testBit_toNat, BitVec.getLsbD_not, BitVec.ofInt_natCast, BitVec.getLsbD_ofNat]
    by_cases hi : i < 64
    · rw [decide_eq_true hi]
      simp only [Bool.true_and]
    · have : a.testBit i = false := Nat.testBit_lt_two_pow (Nat.lt_of_lt_of_le ha (Nat.pow_le_pow_right (by omega) (by omega)))
      simp [this]
  rw [e]
  exact wrap_i64_nat _ (Nat.lt_of_le_of_lt (andn_le a b) ha)
theorem andn_zero (a b : Nat) : andn a b = 0 ↔ ∀ i, a.testBit i = true → b.testBit i = true := by
  constructor
  · intro h i hi
    have := andn_bit a b i
    rw [h, hi] at this
    cases hb : b.testBit i
    · simp [hb] at this
    · rfl
  · intro h
    apply Nat.eq_of_testBit_eq
    intro i
    rw [andn_bit]
    cases ha : a.testBit i
    · simp
    · simp [h i ha]
theorem andn_zero_le {a b : Nat} (h : andn a b = 0) : a ≤ b := Nat.le_of_testBit fun i hi => (andn_zero a b).1 h i hi
theorem andNot_le {p i : Int} (h0 : 0 ≤ p) (h1 : 0 ≤ i) (hp : p < 9223372036854775808) (hi : i < 9223372036854775808) (h : Go.bits .andNot .i64 p i = 0) : p ≤ i := by
  obtain ⟨a, rfl⟩ := Int.eq_ofNat_of_zero_le h0
  obtain ⟨b, rfl⟩ := Int.eq_ofNat_of_zero_le h1
  rw [andNot_nat a b (by omega) (by omega)] at h
  have := andn_zero_le (a := a) (b := b) (by omega)
  omega

/-- What a table has for the set j. -/
def GoodPart (j : Nat) (p : Int) : Prop := 0 ≤ p ∧ Go.bits .andNot .i64 p (j : Int) = 0 ∧ (p = 0 → j = 0)
theorem isChoice_l0 (l : List Int) (hl : l.length ≤ 4611686018427387904) (hw : ∀ x ∈ l, x < 9223372036854775808) : ∀ (d k i : Nat), i + d = l.length → d < k →
    ∃ b, impl_isChoice.l0 k l (l.length : Int) (i : Int) = some b ∧ spec_cfGood.l0 k l (l.length : Int) (i : Int) = some b ∧ (b = true ↔ ∀ j, i ≤ j → j < l.length → GoodPart j (l.getD j 0)) := by
  intro d
  induction d with
  | zero =>
    intro k i h hk
    obtain ⟨k, rfl⟩ : ∃ m, k = m + 1 := ⟨k - 1, by omega⟩
    simp only [impl_isChoice.l0, spec_cfGood.l0]
    exact ⟨true, by rw [if_neg (by omega)], by rw [if_neg (by omega)], by simp; intro j h1 h2; omega⟩
  | succ d ih =>
    intro k i h hk
    obtain ⟨k, rfl⟩ : ∃ m, k = m + 1 := ⟨k - 1, by omega⟩
    obtain ⟨b, hb1, hb2, hb3⟩ := ih k (i + 1) (by omega) (by omega)
    simp only [impl_isChoice.l0, spec_cfGood.l0]
    have e : ((i : Int) + 1) = ((i + 1 : Nat) : Int) := by omega
    have c1 : (i : Int) < (l.length : Int) := by omega
    have c2 : 0 ≤ (i : Int) := by omega
    simp only [c1, c2, if_true, wrap_ok (show -9223372036854775808 ≤ (i : Int) + 1 by omega) (show (i : Int) + 1 < 9223372036854775808 by omega), l1In_eq]
    rw [e, hb1, hb2]
    have hp : rd l (i : Int) < 9223372036854775808 := by
      rw [rd_nat, List.getD_eq_getElem?_getD, List.getElem?_eq_getElem (by omega)]
      exact hw _ (List.getElem_mem _)
    have hr : rd l (i : Int) = l.getD i 0 := rd_nat l i
    have bad : ¬ GoodPart i (l.getD i 0) → (false = true ↔ ∀ j, i ≤ j → j < l.length → GoodPart j (l.getD j 0)) := fun hn => ⟨fun hh => (by cases hh), fun hh => absurd (hh i (Nat.le_refl _) (by omega)) hn⟩
    have good : GoodPart i (l.getD i 0) → (b = true ↔ ∀ j, i ≤ j → j < l.length → GoodPart j (l.getD j 0)) := fun hg => hb3.trans ⟨fun hh j h1 h2 => if e : j = i then e ▸ hg else hh j (by omega) h2, fun hh j h1 h2 => hh j (by omega) h2⟩
    rw [← hr] at bad good
    generalize rd l (i : Int) = p at hp bad good ⊢
    simp only [Option.bind_some]
    by_cases h1 : Go.bits .andNot .i64 p (i : Int) = 0
    · simp only [h1, if_true]
      by_cases h2 : p < 0
      · exact ⟨false, by rw [if_pos h2], by rw [if_neg (by simp; omega)], bad (fun hg => by have := hg.1; omega)⟩
      · by_cases h3 : p = 0
        · by_cases h4 : (i : Int) = 0
          · refine ⟨b, ?_, ?_, good ⟨by omega, h1, fun _ => by omega⟩⟩
            · rw [if_neg h2, if_pos h3, if_pos h4]
            · rw [if_pos (by simp; omega), if_pos h3, if_neg (by omega)]
          · refine ⟨false, ?_, ?_, bad (fun hg => h4 (by have := hg.2.2 h3; omega))⟩
            · rw [if_neg h2, if_pos h3, if_neg h4]
            · rw [if_pos (by simp; omega), if_pos h3, if_pos (by omega)]
        · have h5 : p ≤ (i : Int) := andNot_le (by omega) (by omega) hp (by omega) h1
          refine ⟨b, ?_, ?_, good ⟨by omega, h1, fun h => absurd h h3⟩⟩
          · rw [if_neg h2, if_neg h3]
          · rw [if_pos (by simp; omega), if_neg h3]
    · refine ⟨false, by rw [if_neg h1], ?_, bad (fun hg => h1 hg.2.1)⟩
      by_cases h2 : 0 ≤ p ∧ p ≤ (i : Int)
      · rw [if_pos (by simpa using h2), if_neg h1]
      · rw [if_neg (by simpa using h2)]
/-- A table for n. -/
def IsChoice (n : Int) (l : List Int) : Prop := (0 ≤ n ∧ n ≤ 4) ∧ (l.length : Int) = shl .i64 1 n ∧ ∀ j, j < l.length → GoodPart j (l.getD j 0)
/-- Is a list a table for n? -/
theorem isChoice_k (n : Int) (l : List Int) (hl : l.length ≤ 1048576) (hw : ∀ x ∈ l, x < 9223372036854775808) (k : Nat) (hk : l.length + 1 < k) :
    ∃ b, impl_isChoice.f k n l = some b ∧ spec_cfGood.f k n l = some b ∧ (b = true ↔ IsChoice n l) := by
  obtain ⟨k, rfl⟩ : ∃ m, k = m + 1 := ⟨k - 1, by omega⟩
  unfold impl_isChoice.f spec_cfGood.f spec_cfSize.f IsChoice
  simp only [within_eq, l1In_eq, Option.bind_some]
  by_cases h : 0 ≤ n ∧ n ≤ 4
  · simp only [h, and_self, decide_true, if_true, impl_isChoice.j0, spec_cfGood.j0]
    by_cases h2 : (l.length : Int) = shl .i64 1 n
    · rw [if_neg (by simp [h2]), if_neg (by simp [h2])]
      obtain ⟨b, h3, h4, h5⟩ := isChoice_l0 l (by omega) hw l.length k 0 (by omega) (by omega)
      exact ⟨b, h3, h4, h5.trans ⟨fun hh => ⟨trivial, h2, fun j hj => hh j (by omega) hj⟩, fun hh j _ hj => hh.2.2 j hj⟩⟩
    · exact ⟨false, by rw [if_pos (by simpa using h2)], by rw [if_pos (by simpa using h2)], by simp [h2]⟩
  · simp only [h, decide_false, if_neg Bool.false_ne_true]
    exact ⟨false, by simp [impl_isChoice.j0], by simp [spec_cfGood.j0], by simp⟩
theorem shl_pow (n : Nat) (h : n ≤ 4) : shl .i64 1 (n : Int) = ((2 ^ n : Nat) : Int) := by
  rcases (show n = 0 ∨ n = 1 ∨ n = 2 ∨ n = 3 ∨ n = 4 by omega) with h | h | h | h | h <;> subst h <;> decide
theorem IsChoice.len {n : Int} {l : List Int} (h : IsChoice n l) : ∃ m : Nat, m ≤ 4 ∧ n = (m : Int) ∧ l.length = 2 ^ m := by
  obtain ⟨h1, h2, _⟩ := h
  refine ⟨n.toNat, by omega, by omega, ?_⟩
  have e : n = ((n.toNat : Nat) : Int) := by omega
  rw [e, shl_pow _ (by omega)] at h2
  exact_mod_cast h2
theorem IsChoice.part {n : Int} {l : List Int} (hw : ∀ x ∈ l, x < 9223372036854775808) (h : IsChoice n l) (j : Nat) (hj : j < l.length) : ∃ p : Nat, l.getD j 0 = (p : Int) ∧ p ≤ j := by
  obtain ⟨m, hm, _, hlen⟩ := h.len
  obtain ⟨h1, h2, _⟩ := h.2.2 j hj
  obtain ⟨p, hp⟩ := Int.eq_ofNat_of_zero_le h1
  have hp' : l.getD j 0 = (p : Int) := hp
  refine ⟨p, hp', ?_⟩
  have hlt : l.getD j 0 < 9223372036854775808 := by
    rw [List.getD_eq_getElem?_getD, List.getElem?_eq_getElem hj]
    exact hw _ (List.getElem_mem _)
  have := Nat.pow_le_pow_right (n := 2) (by omega) hm
  have := andNot_le (p := l.getD j 0) (i := (j : Int)) h1 (by omega) hlt (by omega) h2
  omega

/-- The law's frame behind its two calls. -/
theorem fails_loops (l : List Int) (is : Int → Int → Option Bool) (c : Int) (h : ∀ a b, is a b = spec_cfFails.f l a b c) : ∀ k,
    (∀ n i, impl_fails.l0 k l is n i = spec_cfPair.l0 k l c n i) ∧ (∀ a n i n' j, impl_fails.l1 k l is a n i n' j = spec_cfPair.l1 k l c a n i n' j) := by
  intro k
  induction k with
  | zero => exact ⟨fun _ _ => by simp [impl_fails.l0, spec_cfPair.l0], fun _ _ _ _ _ => by simp [impl_fails.l1, spec_cfPair.l1]⟩
  | succ k ih =>
    refine ⟨fun n i => ?_, fun a n i n' j => ?_⟩
    · simp only [impl_fails.l0, spec_cfPair.l0, ih.2]
    · simp only [impl_fails.l1, spec_cfPair.l1, ih.1, ih.2, h]
theorem pair_some (l : List Int) (c : Int) (hl : l.length ≤ 16) (h : ∀ a b : Nat, a < l.length → b < l.length → ∃ r, spec_cfFails.f l a b c = some r) :
    ∀ (d k a : Nat), a + d = l.length → d * 20 < k → ∃ r, spec_cfPair.l0 k l c (l.length : Int) (a : Int) = some r := by
  intro d
  induction d with
  | zero =>
    intro k a ha hk
    obtain ⟨k, rfl⟩ : ∃ m, k = m + 1 := ⟨k - 1, by omega⟩
    simp only [spec_cfPair.l0]
    rw [if_neg (by omega)]
    exact ⟨_, rfl⟩
  | succ d ih =>
    intro k a ha hk
    obtain ⟨k, rfl⟩ : ∃ m, k = m + 1 := ⟨k - 1, by omega⟩
    simp only [spec_cfPair.l0]
    rw [if_pos (by omega)]
    have inner : ∀ (e k b : Nat), b + e = l.length → d * 20 + 1 + e < k → ∃ r, spec_cfPair.l1 k l c (a : Int) (l.length : Int) (a : Int) (l.length : Int) (b : Int) = some r := by
      intro e
      induction e with
      | zero =>
        intro k b hb hk
        obtain ⟨k, rfl⟩ : ∃ m, k = m + 1 := ⟨k - 1, by omega⟩
        simp only [spec_cfPair.l1]
        rw [if_neg (by omega), wrap_ok (by omega) (by omega)]
        have e1 : ((a : Int) + 1) = ((a + 1 : Nat) : Int) := by omega
        rw [e1]
        exact ih k (a + 1) (by omega) (by omega)
      | succ e ihe =>
        intro k b hb hk
        obtain ⟨k, rfl⟩ : ∃ m, k = m + 1 := ⟨k - 1, by omega⟩
        simp only [spec_cfPair.l1]
        obtain ⟨r, hr⟩ := h a b (by omega) (by omega)
        rw [if_pos (by omega), hr, wrap_ok (by omega) (by omega)]
        simp only [Option.bind_some]
        have e1 : ((b : Int) + 1) = ((b + 1 : Nat) : Int) := by omega
        rw [e1]
        cases r
        · rw [if_neg (by simp)]
          exact ihe k (b + 1) (by omega) (by omega)
        · exact ⟨_, if_pos rfl⟩
    exact inner l.length k 0 (by omega) (by omega)
/-- What is asked of a table is told. -/
theorem cfFails_some {n : Int} {l : List Int} (hw : ∀ x ∈ l, x < 9223372036854775808) (hc : IsChoice n l) (c : Int) (a b : Nat) (ha : a < l.length) (hb : b < l.length) : ∃ r, spec_cfFails.f l a b c = some r := by
  obtain ⟨m, hm, _, hlen⟩ := hc.len
  have h16 : l.length ≤ 2 ^ 4 := by rw [hlen]; exact Nat.pow_le_pow_right (by omega) hm
  have hor : ∀ x y : Nat, x < l.length → y < l.length → (x ||| y) < l.length := by
    intro x y hx hy
    rw [hlen] at hx hy ⊢
    exact Nat.or_lt_two_pow hx hy
  obtain ⟨p, hp, hpa⟩ := hc.part hw a ha
  obtain ⟨q, hq, hqb⟩ := hc.part hw b hb
  have e1 : Go.bits .or .i64 (a : Int) (b : Int) = ((a ||| b : Nat) : Int) := or_nat a b (by omega) (by omega)
  have e2 : Go.bits .or .i64 (rd l (a : Int)) (rd l (b : Int)) = ((p ||| q : Nat) : Int) := by rw [rd_nat, rd_nat, hp, hq]; exact or_nat p q (by omega) (by omega)
  have o1 := hor a b ha hb
  have o2 := hor p q (by omega) (by omega)
  have d1 : 0 ≤ (a : Int) := by omega
  have d2 : (a : Int) < (l.length : Int) := by omega
  have d3 : 0 ≤ (b : Int) := by omega
  have d4 : (b : Int) < (l.length : Int) := by omega
  have d5 : 0 ≤ ((a ||| b : Nat) : Int) := by omega
  have d6 : ((a ||| b : Nat) : Int) < (l.length : Int) := by omega
  have d7 : 0 ≤ ((p ||| q : Nat) : Int) := by omega
  have d8 : ((p ||| q : Nat) : Int) < (l.length : Int) := by omega
  unfold spec_cfFails.f
  simp only [e1, e2, d1, d2, d3, d4, d5, d6, d7, d8, if_true]
  repeat' split
  all_goals exact ⟨_, rfl⟩

theorem closure_eq (l : List Int) (a b : Int) : impl_OutcastFails_1.f a b l = spec_cfFails.f l a b 2 := by
  unfold impl_OutcastFails_1.f spec_cfFails.f
  simp
theorem FnExactOutcastFails : laws_FnExactOutcastFails.Pure := by
  intro n l _ _ _ hw0
  have hw : ∀ x ∈ l, x < 9223372036854775808 := fun x hx => (wf_bounds (hw0 x hx)).2
  by_cases h : l.length ≤ 1048576
  · refine ⟨l.length + 500, ?_⟩
    unfold laws_FnExactOutcastFails.f
    rw [if_neg (by omega)]
    obtain ⟨b, hb1, hb2, hb3⟩ := isChoice_k n l h hw (l.length + 500) (by omega)
    have hloop := (fails_loops l (fun z0_ z1_ => impl_OutcastFails_1.f z0_ z1_ l) 2 (closure_eq l) (l.length + 500)).1
    have hf : impl_OutcastFails.f (l.length + 500) n l = spec_OutcastFails.f (l.length + 500) n l := by
      unfold impl_OutcastFails.f spec_OutcastFails.f impl_fails.f spec_cfPair.f
      simp only [hb1, hb2, Option.bind_some, hloop]
    have hs : ∃ x y z, spec_OutcastFails.f (l.length + 500) n l = some (x, y, z) := by
      unfold spec_OutcastFails.f spec_cfPair.f
      simp only [hb2, Option.bind_some]
      cases b
      · exact ⟨_, _, _, rfl⟩
      · have hc := hb3.1 rfl
        obtain ⟨m, hm, _, hlen⟩ := hc.len
        have h16 : l.length ≤ 2 ^ 4 := by rw [hlen]; exact Nat.pow_le_pow_right (by omega) hm
        obtain ⟨r, hr⟩ := pair_some l 2 (by omega) (cfFails_some hw hc 2) l.length (l.length + 500) 0 (by omega) (by omega)
        simp only [if_true]
        rw [show ((0 : Nat) : Int) = (0 : Int) from rfl] at hr
        rw [hr]
        exact ⟨_, _, _, rfl⟩
    obtain ⟨x, y, z, hxy⟩ := hs
    simp only [toIntS_k l h _ (show l.length < l.length + 500 by omega), Option.bind_some, hf, hxy, if_true, bne_self_eq_false]
    show laws_FnExactOutcastFails.j0 (l.length + 499 + 1) l l false = some true
    simp only [laws_FnExactOutcastFails.j0]
    rw [if_neg (by simp)]
    simp only [toIntS_k l h _ (show l.length < l.length + 499 by omega), Option.bind_some, eqIntS_k l (by omega) _ (show l.length < l.length + 499 by omega)]
    rfl
  · refine ⟨1, ?_⟩
    unfold laws_FnExactOutcastFails.f
    rw [if_pos (by omega)]

end Go.Proofs.Ytpdgdjgklcfjcaa.Pure
