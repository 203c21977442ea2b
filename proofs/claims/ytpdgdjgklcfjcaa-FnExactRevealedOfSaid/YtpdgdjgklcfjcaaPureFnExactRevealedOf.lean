/- RevealedOf: the program tells of every number and list the relation that the reference tells; no condition. -/
import Derived.Test.YtpdgdjgklcfjcaaPFnExactRevealedOfx5
namespace Go.Proofs.Ytpdgdjgklcfjcaa.Pure
open Go.RowKit Go.Proofs.Ytpdgdjgklcfjcaa.PFnExactRevealedOf Go.Proofs.YtpdgdjgklcfjcaaW.PrintWords Go.Proofs.YtpdgdjgklcfjcaaW.PrintLast Go.Proofs.YtpdgdjgklcfjcaaW.PrintMore
set_option linter.unusedVariables false
set_option linter.unusedSimpArgs false

theorem wrap_ok {x : Int} (h0 : -9223372036854775808 ≤ x) (h1 : x < 9223372036854775808) : wrap64 x = x := by unfold wrap64; omega
theorem wf_bounds {x : Int} (h : (Lit.int .i64 x).wf = true) : -9223372036854775808 ≤ x ∧ x < 9223372036854775808 := by
  have e : IntKind.i64.min ≤ x ∧ x ≤ 9223372036854775807 := by simpa [Lit.wf] using h
  have m : IntKind.i64.min = -9223372036854775808 := by decide
  omega
theorem rd_nat (l : List Int) (i : Nat) : rd l (i : Int) = l.getD i 0 := by simp [rd]

theorem toIntS_l0 (l : List Int) (hl : l.length ≤ 4611686018427387904) : ∀ (d k i : Nat) (x : List Int), i + d = l.length → d < k → x.length = l.length → (∀ j, j < i → x[j]? = l[j]?) → laws_toIntS.l0 k l x (i : Int) = some l := by
  intro d
  induction d with
  | zero =>
    intro k i x h hk hx hj
    obtain ⟨k, rfl⟩ : ∃ m, k = m + 1 := ⟨k - 1, by omega⟩
    simp only [laws_toIntS.l0]
    rw [if_neg (by omega)]
    congr 1
    apply List.ext_getElem?
    intro j
    by_cases hji : j < i
    · exact hj j hji
    · rw [List.getElem?_eq_none (by omega), List.getElem?_eq_none (by omega)]
  | succ d ih =>
    intro k i x h hk hx hj
    obtain ⟨k, rfl⟩ : ∃ m, k = m + 1 := ⟨k - 1, by omega⟩
    simp only [laws_toIntS.l0]
    rw [if_pos (by omega), if_pos (by omega), if_pos (by omega), wrap_ok (by omega) (by omega)]
    have e : ((i : Int) + 1) = ((i + 1 : Nat) : Int) := by omega
    rw [e]
    refine ih k (i + 1) _ (by omega) (by omega) (by simpa using hx) ?_
    intro j hji
    have e2 : (i : Int).toNat = i := by omega
    rw [e2, List.getElem?_set]
    by_cases hj2 : i = j
    · subst hj2
      rw [if_pos rfl, if_pos (by omega), rd_nat, List.getElem?_eq_getElem (by omega)]
      simp
      rw [List.getElem?_eq_getElem (by omega)]
      rfl
    · rw [if_neg hj2]
      exact hj j (by omega)
theorem toIntS_k (l : List Int) (hl : l.length ≤ 1048576) (k : Nat) (hk : l.length < k) : laws_toIntS.f k l = some l := by
  unfold laws_toIntS.f
  rw [if_pos (by omega), if_pos (by omega)]
  exact toIntS_l0 l (by omega) l.length k 0 _ (by omega) hk (by simp) (by intro j hj; omega)
theorem toIntS_ev (l : List Int) (hl : l.length ≤ 1048576) : Ev (fun k => laws_toIntS.f k l) l := ⟨l.length + 1, fun k hk => toIntS_k l hl k (by omega)⟩

theorem eqIntS_l0 (l : List Int) (hl : l.length ≤ 4611686018427387904) : ∀ (d k i : Nat), i + d = l.length → d < k → laws_eqIntS.l0 k l l (i : Int) = some true := by
  intro d
  induction d with
  | zero =>
    intro k i h hk
    obtain ⟨k, rfl⟩ : ∃ m, k = m + 1 := ⟨k - 1, by omega⟩
    simp only [laws_eqIntS.l0]
    rw [if_neg (by omega)]
  | succ d ih =>
    intro k i h hk
    obtain ⟨k, rfl⟩ : ∃ m, k = m + 1 := ⟨k - 1, by omega⟩
    simp only [laws_eqIntS.l0]
    rw [if_pos (by omega), if_pos (by omega), if_pos (by omega), if_true, wrap_ok (by omega) (by omega)]
    have e : ((i : Int) + 1) = ((i + 1 : Nat) : Int) := by omega
    rw [e]
    exact ih k (i + 1) (by omega) (by omega)
theorem eqIntS_k (l : List Int) (hl : l.length ≤ 4611686018427387904) (k : Nat) (hk : l.length < k) : laws_eqIntS.f k l l = some true := by
  unfold laws_eqIntS.f
  rw [if_pos rfl]
  exact eqIntS_l0 l hl l.length k 0 (by omega) hk
theorem eqIntS_ev (l : List Int) (hl : l.length ≤ 4611686018427387904) : Ev (fun k => laws_eqIntS.f k l l) true := ⟨l.length + 1, fun k hk => eqIntS_k l hl k (by omega)⟩

theorem within_eq (a b c : Int) : impl_within.f a b c = some (decide (b ≤ a ∧ a ≤ c)) := by
  unfold impl_within.f
  by_cases h : a ≥ b <;> simp [h] <;> omega
theorem l1In_eq (a b c : Int) : spec_l1In.f a b c = some (decide (b ≤ a ∧ a ≤ c)) := by
  unfold spec_l1In.f
  by_cases h : a ≥ b <;> simp [h] <;> omega

/-! Sets as numbers. -/
def andn (a b : Nat) : Nat := a ^^^ (a &&& b)
theorem andn_bit (a b i : Nat) : (andn a b).testBit i = (a.testBit i && !b.testBit i) := by
  unfold andn
  rw [Nat.testBit_xor, Nat.testBit_and]
  cases a.testBit i <;> cases b.testBit i <;> rfl
theorem wrap_i64_nat (n : Nat) (h : n < 2 ^ 63) : IntKind.i64.wrap (n : Int) = (n : Int) := by
  rw [IntKind.wrap_i64]
  have : (n : Int) < 9223372036854775808 := by omega
  omega
theorem ofInt_toNat (n : Nat) (h : n < 2 ^ 63) : (BitVec.ofInt 64 (n : Int)).toNat = n := by
  rw [BitVec.ofInt_natCast, BitVec.toNat_ofNat, Nat.mod_eq_of_lt (by omega)]
theorem and_nat (a b : Nat) (ha : a < 2 ^ 63) (hb : b < 2 ^ 63) : Go.bits .and .i64 (a : Int) (b : Int) = ((a &&& b : Nat) : Int) := by
  unfold Go.bits
  show IntKind.i64.wrap ((BitVec.ofInt 64 (a : Int) &&& BitVec.ofInt 64 (b : Int)).toNat : Int) = _
  rw [BitVec.toNat_and, ofInt_toNat a ha, ofInt_toNat b hb]
  exact wrap_i64_nat _ (Nat.lt_of_le_of_lt Nat.and_le_left ha)
theorem or_nat (a b : Nat) (ha : a < 2 ^ 63) (hb : b < 2 ^ 63) : Go.bits .or .i64 (a : Int) (b : Int) = ((a ||| b : Nat) : Int) := by
  unfold Go.bits
  show IntKind.i64.wrap ((BitVec.ofInt 64 (a : Int) ||| BitVec.ofInt 64 (b : Int)).toNat : Int) = _
  rw [BitVec.toNat_or, ofInt_toNat a ha, ofInt_toNat b hb]
  exact wrap_i64_nat _ (Nat.or_lt_two_pow ha hb)
theorem xor_nat (a b : Nat) (ha : a < 2 ^ 63) (hb : b < 2 ^ 63) : Go.bits .xor .i64 (a : Int) (b : Int) = ((a ^^^ b : Nat) : Int) := by
  unfold Go.bits
  show IntKind.i64.wrap ((BitVec.ofInt 64 (a : Int) ^^^ BitVec.ofInt 64 (b : Int)).toNat : Int) = _
  rw [BitVec.toNat_xor, ofInt_toNat a ha, ofInt_toNat b hb]
  exact wrap_i64_nat _ (Nat.xor_lt_two_pow ha hb)
theorem andn_le (a b : Nat) : andn a b ≤ a := Nat.le_of_testBit fun i h => by
  rw [andn_bit] at h
  cases h1 : a.testBit i
  · simp [h1] at h
  · rfl
theorem andNot_nat (a b : Nat) (ha : a < 2 ^ 63) (hb : b < 2 ^ 63) : Go.bits .andNot .i64 (a : Int) (b : Int) = ((andn a b : Nat) : Int) := by
  unfold Go.bits
  show IntKind.i64.wrap ((BitVec.ofInt 64 (a : Int) &&& ~~~ BitVec.ofInt 64 (b : Int)).toNat : Int) = _
  have e : (BitVec.ofInt 64 (a : Int) &&& ~~~ BitVec.ofInt 64 (b : Int)).toNat = andn a b := by
    apply Nat.eq_of_testBit_eq
    intro i
    rw [andn_bit, BitVec.toNat_and, Nat.testBit_and, ofInt_toNat a ha, BitVec.testBit_toNat, BitVec.getLsbD_not, BitVec.ofInt_natCast, BitVec.getLsbD_ofNat]
    by_cases hi : i < 64
    · rw [decide_eq_true hi]
      simp only [Bool.true_and]
    · have : a.testBit i = false := Nat.testBit_lt_two_pow (Nat.lt_of_lt_of_le ha (Nat.pow_le_pow_right (by omega) (by omega)))
      simp [this]
  rw [e]
  exact wrap_i64_nat _ (Nat.lt_of_le_of_lt (andn_le a b) ha)
theorem andn_zero (a b : Nat) : andn a b = 0 ↔ ∀ i, a.testBit i = true → b.testBit i = true := by
  constructor
  · intro h i hi
    have := andn_bit a b i
    rw [h, hi] at this
    cases hb : b.testBit i
    · simp [hb] at this
    · rfl
  · intro h
    apply Nat.eq_of_testBit_eq
    intro i
    rw [andn_bit]
    cases ha : a.testBit i
    · simp
    · simp [h i ha]
theorem andn_zero_le {a b : Nat} (h : andn a b = 0) : a ≤ b := Nat.le_of_testBit fun i hi => (andn_zero a b).1 h i hi
theorem andNot_le {p i : Int} (h0 : 0 ≤ p) (h1 : 0 ≤ i) (hp : p < 9223372036854775808) (hi : i < 9223372036854775808) (h : Go.bits .andNot .i64 p i = 0) : p ≤ i := by
  obtain ⟨a, rfl⟩ := Int.eq_ofNat_of_zero_le h0
  obtain ⟨b, rfl⟩ := Int.eq_ofNat_of_zero_le h1
  rw [andNot_nat a b (by omega) (by omega)] at h
  have := andn_zero_le (a := a) (b := b) (by omega)
  omega

/-- What a table has for the set j. -/
def GoodPart (j : Nat) (p : Int) : Prop := 0 ≤ p ∧ Go.bits .andNot .i64 p (j : Int) = 0 ∧ (p = 0 → j = 0)
theorem isChoice_l0 (l : List Int) (hl : l.length ≤ 4611686018427387904) (hw : ∀ x ∈ l, x < 9223372036854775808) : ∀ (d k i : Nat), i + d = l.length → d < k →
    ∃ b, impl_isChoice.l0 k l (l.length : Int) (i : Int) = some b ∧ spec_cfGood.l0 k l (l.length : Int) (i : Int) = some b ∧ (b = true ↔ ∀ j, i ≤ j → j < l.length → GoodPart j (l.getD j 0)) := by
  intro d
  induction d with
  | zero =>
    intro k i h hk
    obtain ⟨k, rfl⟩ : ∃ m, k = m + 1 := ⟨k - 1, by omega⟩
    simp only [impl_isChoice.l0, spec_cfGood.l0]
    exact ⟨true, by rw [if_neg (by omega)], by rw [if_neg (by omega)], by simp; intro j h1 h2; omega⟩
  | succ d ih =>
    intro k i h hk
    obtain ⟨k, rfl⟩ : ∃ m, k = m + 1 := ⟨k - 1, by omega⟩
    obtain ⟨b, hb1, hb2, hb3⟩ := ih k (i + 1) (by omega) (by omega)
    simp only [impl_isChoice.l0, spec_cfGood.l0]
    have e : ((i : Int) + 1) = ((i + 1 : Nat) : Int) := by omega
    have c1 : (i : Int) < (l.length : Int) := by omega
    have c2 : 0 ≤ (i : Int) := by omega
    simp only [c1, c2, if_true, wrap_ok (show -9223372036854775808 ≤ (i : Int) + 1 by omega) (show (i : Int) + 1 < 9223372036854775808 by omega), l1In_eq]
    rw [e, hb1, hb2]
    have hp : rd l (i : Int) < 9223372036854775808 := by
      rw [rd_nat, List.getD_eq_getElem?_getD, List.getElem?_eq_getElem (by omega)]
      exact hw _ (List.getElem_mem _)
    have hr : rd l (i : Int) = l.getD i 0 := rd_nat l i
    have bad : ¬ GoodPart i (l.getD i 0) → (false = true ↔ ∀ j, i ≤ j → j < l.length → GoodPart j (l.getD j 0)) := fun hn => ⟨fun hh => (by cases hh), fun hh => absurd (hh i (Nat.le_refl _) (by omega)) hn⟩
    have good : GoodPart i (l.getD i 0) → (b = true ↔ ∀ j, i ≤ j → j < l.length → GoodPart j (l.getD j 0)) := fun hg => hb3.trans ⟨fun hh j h1 h2 => if e : j = i then e ▸ hg else hh j (by omega) h2, fun hh j h1 h2 => hh j (by omega) h2⟩
    rw [← hr] at bad good
    generalize rd l (i : Int) = p at hp bad good ⊢
    simp only [Option.bind_some]
    by_cases h1 : Go.bits .andNot .i64 p (i : Int) = 0
    · simp only [h1, if_true]
      by_cases h2 : p < 0
      · exact ⟨false, by rw [if_pos h2], by rw [if_neg (by simp; omega)], bad (fun hg => by have := hg.1; omega)⟩
      · by_cases h3 : p = 0
        · by_cases h4 : (i : Int) = 0
          · refine ⟨b, ?_, ?_, good ⟨by omega, h1, fun _ => by omega⟩⟩
            · rw [if_neg h2, if_pos h3, if_pos h4]
            · rw [if_pos (by simp; omega), if_pos h3, if_neg (by omega)]
          · refine ⟨false, ?_, ?_, bad (fun hg => h4 (by have := hg.2.2 h3; omega))⟩
            · rw [if_neg h2, if_pos h3, if_neg h4]
            · rw [if_pos (by simp; omega), if_pos h3, if_pos (by omega)]
        · have h5 : p ≤ (i : Int) := andNot_le (by omega) (by omega) hp (by omega) h1
          refine ⟨b, ?_, ?_, good ⟨by omega, h1, fun h => absurd h h3⟩⟩
          · rw [if_neg h2, if_neg h3]
          · rw [if_pos (by simp; omega), if_neg h3]
    · refine ⟨false, by rw [if_neg h1], ?_, bad (fun hg => h1 hg.2.1)⟩
      by_cases h2 : 0 ≤ p ∧ p ≤ (i : Int)
      · rw [if_pos (by simpa using h2), if_neg h1]
      · rw [if_neg (by simpa using h2)]
/-- A table for n. -/
def IsChoice (n : Int) (l : List Int) : Prop := (0 ≤ n ∧ n ≤ 4) ∧ (l.length : Int) = shl .i64 1 n ∧ ∀ j, j < l.length → GoodPart j (l.getD j 0)
/-- Is a list a table for n? -/
theorem isChoice_k (n : Int) (l : List Int) (hl : l.length ≤ 1048576) (hw : ∀ x ∈ l, x < 9223372036854775808) (k : Nat) (hk : l.length + 1 < k) :
    ∃ b, impl_isChoice.f k n l = some b ∧ spec_cfGood.f k n l = some b ∧ (b = true ↔ IsChoice n l) := by
  obtain ⟨k, rfl⟩ : ∃ m, k = m + 1 := ⟨k - 1, by omega⟩
  unfold impl_isChoice.f spec_cfGood.f spec_cfSize.f IsChoice
  simp only [within_eq, l1In_eq, Option.bind_some]
  by_cases h : 0 ≤ n ∧ n ≤ 4
  · simp only [h, and_self, decide_true, if_true, impl_isChoice.j0, spec_cfGood.j0]
    by_cases h2 : (l.length : Int) = shl .i64 1 n
    · rw [if_neg (by simp [h2]), if_neg (by simp [h2])]
      obtain ⟨b, h3, h4, h5⟩ := isChoice_l0 l (by omega) hw l.length k 0 (by omega) (by omega)
      exact ⟨b, h3, h4, h5.trans ⟨fun hh => ⟨trivial, h2, fun j hj => hh j (by omega) hj⟩, fun hh j _ hj => hh.2.2 j hj⟩⟩
    · exact ⟨false, by rw [if_pos (by simpa using h2)], by rw [if_pos (by simpa using h2)], by simp [h2]⟩
  · simp only [h, decide_false, if_neg Bool.false_ne_true]
    exact ⟨false, by simp [impl_isChoice.j0], by simp [spec_cfGood.j0], by simp⟩
theorem shl_pow (n : Nat) (h : n ≤ 4) : shl .i64 1 (n : Int) = ((2 ^ n : Nat) : Int) := by
  rcases (show n = 0 ∨ n = 1 ∨ n = 2 ∨ n = 3 ∨ n = 4 by omega) with h | h | h | h | h <;> subst h <;> decide
theorem IsChoice.len {n : Int} {l : List Int} (h : IsChoice n l) : ∃ m : Nat, m ≤ 4 ∧ n = (m : Int) ∧ l.length = 2 ^ m := by
  obtain ⟨h1, h2, _⟩ := h
  refine ⟨n.toNat, by omega, by omega, ?_⟩
  have e : n = ((n.toNat : Nat) : Int) := by omega
  rw [e, shl_pow _ (by omega)] at h2
  exact_mod_cast h2
theorem IsChoice.part {n : Int} {l : List Int} (hw : ∀ x ∈ l, x < 9223372036854775808) (h : IsChoice n l) (j : Nat) (hj : j < l.length) : ∃ p : Nat, l.getD j 0 = (p : Int) ∧ p ≤ j := by
  obtain ⟨m, hm, _, hlen⟩ := h.len
  obtain ⟨h1, h2, _⟩ := h.2.2 j hj
  obtain ⟨p, hp⟩ := Int.eq_ofNat_of_zero_le h1
  have hp' : l.getD j 0 = (p : Int) := hp
  refine ⟨p, hp', ?_⟩
  have hlt : l.getD j 0 < 9223372036854775808 := by
    rw [List.getD_eq_getElem?_getD, List.getElem?_eq_getElem hj]
    exact hw _ (List.getElem_mem _)
  have := Nat.pow_le_pow_right (n := 2) (by omega) hm
  have := andNot_le (p := l.getD j 0) (i := (j : Int)) h1 (by omega) hlt (by omega) h2
  omega

/-- The numbers a, a + 1, .. -/
def iota (a : Int) (n : Nat) : List Int := (List.range n).map fun (j : Nat) => a + (j : Int)
theorem iota_length (a : Int) (n : Nat) : (iota a n).length = n := by simp [iota]
theorem markIntS_l0 (a : Int) (h0 : 0 ≤ a) : ∀ (d k i : Nat) (l : List Int), i + d = l.length → d < k → a + l.length < 4611686018427387904 → (∀ j, j < i → l[j]? = some (a + (j : Int))) →
    laws_markIntS.l0 k l (a + (i : Int)) (i : Int) = some (a + (l.length : Int), iota a l.length) := by
  intro d
  induction d with
  | zero =>
    intro k i l h hk ha hj
    obtain ⟨k, rfl⟩ : ∃ m, k = m + 1 := ⟨k - 1, by omega⟩
    simp only [laws_markIntS.l0]
    rw [if_neg (by omega)]
    have e : i = l.length := by omega
    subst e
    have e2 : l = iota a l.length := by
      apply List.ext_getElem?
      intro j
      by_cases hj2 : j < l.length
      · rw [hj j hj2]
        simp [iota, hj2]
      · rw [List.getElem?_eq_none (by omega), List.getElem?_eq_none (by rw [iota_length]; omega)]
    rw [← e2]
  | succ d ih =>
    intro k i l h hk ha hj
    obtain ⟨k, rfl⟩ : ∃ m, k = m + 1 := ⟨k - 1, by omega⟩
    simp only [laws_markIntS.l0]
    rw [if_pos (by omega), if_pos (by omega), wrap_ok (by omega) (by omega), wrap_ok (by omega) (by omega)]
    have e1 : ((i : Int) + 1) = ((i + 1 : Nat) : Int) := by omega
    have e2 : (a + (i : Int) + 1) = a + ((i + 1 : Nat) : Int) := by omega
    have e3 : (i : Int).toNat = i := by omega
    rw [e1, e2, e3]
    have := ih k (i + 1) (l.set i (a + (i : Int))) (by simp; omega) (by omega) (by simpa using ha) (by
      intro j hji
      rw [List.getElem?_set]
      by_cases e : i = j
      · subst e
        rw [if_pos rfl, if_pos (by omega)]
      · rw [if_neg e]
        exact hj j (by omega))
    simpa using this
theorem markIntS_k (l : List Int) (a : Int) (h0 : 0 ≤ a) (ha : a + l.length < 4611686018427387904) (k : Nat) (hk : l.length < k) : laws_markIntS.f k l a = some (a + (l.length : Int), iota a l.length) := by
  unfold laws_markIntS.f
  have := markIntS_l0 a h0 l.length k 0 l (by omega) hk ha (by intro j hj; omega)
  simpa using this
theorem heldIntS_l0 (a : Int) (n : Nat) (h0 : 0 ≤ a) (ha : a + n < 4611686018427387904) : ∀ (d k i : Nat), i + d = n → d < k → laws_heldIntS.l0 k (iota a n) (a + (i : Int)) (i : Int) = some (a + (n : Int)) := by
  intro d
  induction d with
  | zero =>
    intro k i h hk
    obtain ⟨k, rfl⟩ : ∃ m, k = m + 1 := ⟨k - 1, by omega⟩
    simp only [laws_heldIntS.l0, iota_length]
    rw [if_neg (by omega)]
    congr 1
    omega
  | succ d ih =>
    intro k i h hk
    obtain ⟨k, rfl⟩ : ∃ m, k = m + 1 := ⟨k - 1, by omega⟩
    simp only [laws_heldIntS.l0, iota_length]
    have e4 : rd (iota a n) (i : Int) = a + (i : Int) := by
      rw [rd_nat]
      simp [iota, List.getD_eq_getElem?_getD, show i < n by omega]
    rw [if_pos (by omega), if_pos (by omega), if_pos e4, wrap_ok (by omega) (by omega), wrap_ok (by omega) (by omega)]
    have e1 : ((i : Int) + 1) = ((i + 1 : Nat) : Int) := by omega
    have e2 : (a + (i : Int) + 1) = a + ((i + 1 : Nat) : Int) := by omega
    rw [e1, e2]
    exact ih k (i + 1) (by omega) (by omega)
theorem heldIntS_k (a : Int) (n : Nat) (h0 : 0 ≤ a) (ha : a + n < 4611686018427387904) (k : Nat) (hk : n < k) : laws_heldIntS.f k (iota a n) a = some (a + (n : Int)) := by
  unfold laws_heldIntS.f
  have := heldIntS_l0 a n h0 ha n k 0 (by omega) hk
  simpa using this
theorem one_add_nonneg (m : Nat) : ¬ (1 + (m : Int) < 0) := by omega

/-- The set of the j < n for which q tells true. -/
def bitsum (q : Nat → Bool) : Nat → Nat
  | 0 => 0
  | j + 1 => bitsum q j ||| (if q j then 2 ^ j else 0)
theorem bitsum_lt (q : Nat → Bool) (n : Nat) : bitsum q n < 2 ^ n := by
  induction n with
  | zero => simp [bitsum]
  | succ n ih =>
    rw [bitsum]
    apply Nat.or_lt_two_pow
    · exact Nat.lt_of_lt_of_le ih (Nat.pow_le_pow_right (by omega) (by omega))
    · split
      · exact Nat.pow_lt_pow_right (by omega) (by omega)
      · exact Nat.two_pow_pos _
theorem bitsum_bit (q : Nat → Bool) (n i : Nat) : (bitsum q n).testBit i = (decide (i < n) && q i) := by
  induction n with
  | zero => simp [bitsum]
  | succ n ih =>
    rw [bitsum, Nat.testBit_or, ih]
    by_cases e : i = n
    · subst e
      cases h : q i <;> simp [Nat.testBit_two_pow_self]
    · have : (if q n then 2 ^ n else 0).testBit i = false := by
        split
        · rw [Nat.testBit_two_pow_of_ne (by omega)]
        · simp
      rw [this]
      by_cases h : i < n
      · simp [h, show i < n + 1 by omega]
      · simp [h, show ¬ i < n + 1 by omega]
theorem bitsum_congr {q q' : Nat → Bool} (n : Nat) (h : ∀ i, i < n → q i = q' i) : bitsum q n = bitsum q' n := by
  induction n with
  | zero => rfl
  | succ n ih => rw [bitsum, bitsum, ih (fun i hi => h i (by omega)), h n (by omega)]
theorem shl_one (j : Nat) (h : j < 62) : shl .i64 1 (j : Int) = ((2 ^ j : Nat) : Int) := by
  unfold shl
  have e : min (j : Int).toNat IntKind.i64.bits = j := by
    show min (j : Int).toNat 64 = j
    omega
  rw [e]
  have e2 : (1 : Int) * 2 ^ j = ((2 ^ j : Nat) : Int) := by simp
  rw [e2]
  exact wrap_i64_nat _ (Nat.pow_lt_pow_right (by omega) (by omega))
theorem or_shl (a j : Nat) (ha : a < 2 ^ 62) (hj : j < 62) : Go.bits .or .i64 (a : Int) (shl .i64 1 (j : Int)) = ((a ||| 2 ^ j : Nat) : Int) := by
  rw [shl_one j hj]
  exact or_nat a _ (Nat.lt_of_lt_of_le ha (by decide)) (Nat.pow_lt_pow_right (by omega) (by omega))
/-- The rows' sets. -/
def relList (R C : Nat) (p : Nat → Nat → Bool) : List Int := (List.range R).map fun i => ((bitsum (p i) C : Nat) : Int)
theorem relList_length (R C : Nat) (p : Nat → Nat → Bool) : (relList R C p).length = R := by simp [relList]
theorem relList_congr {R C : Nat} {p p' : Nat → Nat → Bool} (h : ∀ i j, i < R → j < C → p i j = p' i j) : relList R C p = relList R C p' := by
  unfold relList
  apply List.map_congr_left
  intro i hi
  rw [bitsum_congr C (fun j hj => h i j (by simpa using hi) hj)]
/-- A list that is being filled: the first i rows are whole, the row i has the columns < j, the others are 0. -/
def part (R C : Nat) (p : Nat → Nat → Bool) (i j : Nat) : List Int := (List.range R).map fun r => if r < i then ((bitsum (p r) C : Nat) : Int) else if r = i then ((bitsum (p r) j : Nat) : Int) else 0
theorem part_length (R C : Nat) (p : Nat → Nat → Bool) (i j : Nat) : (part R C p i j).length = R := by simp [part]
theorem part_start (R C : Nat) (p : Nat → Nat → Bool) : List.replicate R 0 = part R C p 0 0 := by
  apply List.ext_getElem?
  intro r
  by_cases h : r < R
  · simp [part, h, List.getElem?_replicate, bitsum]
  · rw [List.getElem?_eq_none (by simp; omega), List.getElem?_eq_none (by rw [part_length]; omega)]
theorem part_next (R C : Nat) (p : Nat → Nat → Bool) (i : Nat) : part R C p i C = part R C p (i + 1) 0 := by
  apply List.ext_getElem?
  intro r
  by_cases h : r < R
  · simp only [part, List.getElem?_map, List.getElem?_range h, Option.map_some]
    by_cases h1 : r < i
    · simp [h1, show r < i + 1 by omega]
    · by_cases h2 : r = i
      · simp [h2]
      · simp [h1, h2, show ¬ r < i + 1 by omega, bitsum]
  · rw [List.getElem?_eq_none (by rw [part_length]; omega), List.getElem?_eq_none (by rw [part_length]; omega)]
theorem part_end (R C : Nat) (p : Nat → Nat → Bool) : part R C p R 0 = relList R C p := by
  unfold part relList
  apply List.map_congr_left
  intro r hr
  rw [if_pos (by simpa using hr)]
theorem part_rd (R C : Nat) (p : Nat → Nat → Bool) (i j : Nat) (hi : i < R) : rd (part R C p i j) (i : Int) = ((bitsum (p i) j : Nat) : Int) := by
  rw [rd_nat]
  simp [part, List.getD_eq_getElem?_getD, hi]
theorem part_set (R C : Nat) (p : Nat → Nat → Bool) (i j : Nat) (hi : i < R) (hp : p i j = true) : (part R C p i j).set i ((bitsum (p i) j ||| 2 ^ j : Nat) : Int) = part R C p i (j + 1) := by
  apply List.ext_getElem?
  intro r
  by_cases h : r < R
  · rw [List.getElem?_set]
    simp only [part, List.getElem?_map, List.getElem?_range h, Option.map_some, List.length_map, List.length_range]
    by_cases e : i = r
    · subst e
      simp [h, bitsum, hp]
    · rw [if_neg e]
      simp [show ¬ r = i from fun h => e h.symm]
  · rw [List.getElem?_eq_none (by simp [part_length]; omega), List.getElem?_eq_none (by rw [part_length]; omega)]
theorem part_skip (R C : Nat) (p : Nat → Nat → Bool) (i j : Nat) (hp : p i j = false) : part R C p i j = part R C p i (j + 1) := by
  unfold part
  apply List.map_congr_left
  intro r _
  by_cases h1 : r < i
  · simp [h1]
  · by_cases h2 : r = i
    · subst h2
      simp [bitsum, hp]
    · simp [h1, h2]

theorem relation_l0 (n : Nat) (hn : n ≤ 60) (is : Int → Int → Option Bool) (p : Nat → Nat → Bool) (h : ∀ i j : Nat, i < n → j < n → is i j = some (p i j)) :
    ∀ (d k i : Nat), i + d = n → d * (n + 3) < k → impl_relation.l0 k (n : Int) is (n : Int) (i : Int) (n : Int) (part n n p i 0) = some ((n : Int), relList n n p) := by
  intro d
  induction d with
  | zero =>
    intro k i hi hk
    obtain ⟨k, rfl⟩ : ∃ m, k = m + 1 := ⟨k - 1, by omega⟩
    simp only [impl_relation.l0]
    have e : i = n := by omega
    subst e
    rw [if_neg (by omega), part_end]
  | succ d ih =>
    intro k i hi hk
    rw [Nat.succ_mul] at hk
    obtain ⟨k, rfl⟩ : ∃ m, k = m + 1 := ⟨k - 1, by omega⟩
    simp only [impl_relation.l0]
    rw [if_pos (by omega)]
    have inner : ∀ (e k j : Nat), j + e = n → d * (n + 3) + 1 + e < k → impl_relation.l1 k (n : Int) is (i : Int) (n : Int) (i : Int) (n : Int) (j : Int) (n : Int) (part n n p i j) = some ((n : Int), relList n n p) := by
      intro e
      induction e with
      | zero =>
        intro k j hj hk
        obtain ⟨k, rfl⟩ : ∃ m, k = m + 1 := ⟨k - 1, by omega⟩
        simp only [impl_relation.l1]
        have e1 : ((i : Int) + 1) = ((i + 1 : Nat) : Int) := by omega
        have e2 : j = n := by omega
        subst e2
        rw [if_neg (by omega), wrap_ok (by omega) (by omega), e1, part_next]
        exact ih k (i + 1) (by omega) (by omega)
      | succ e ihe =>
        intro k j hj hk
        obtain ⟨k, rfl⟩ : ∃ m, k = m + 1 := ⟨k - 1, by omega⟩
        simp only [impl_relation.l1]
        have e1 : ((j : Int) + 1) = ((j + 1 : Nat) : Int) := by omega
        have e3 : (i : Int).toNat = i := by omega
        rw [if_pos (by omega), h i j (by omega) (by omega), wrap_ok (by omega) (by omega), e1, e3]
        simp only [Option.bind_some]
        cases hp : p i j
        · rw [if_neg (by simp), part_skip n n p i j hp]
          exact ihe k (j + 1) (by omega) (by omega)
        · rw [if_pos rfl, if_pos (by omega), if_pos (by rw [part_length]; omega), if_pos (by omega), part_rd n n p i j (by omega), or_shl _ j (Nat.lt_of_lt_of_le (bitsum_lt (p i) j) (Nat.pow_le_pow_right (by omega) (by omega))) (by omega), part_set n n p i j (by omega) hp]
          exact ihe k (j + 1) (by omega) (by omega)
    exact inner n k 0 (by omega) (by omega)
/-- The relation of what is told of each pair. -/
theorem relation_k (n : Nat) (hn : n ≤ 60) (is : Int → Int → Option Bool) (p : Nat → Nat → Bool) (h : ∀ i j : Nat, i < n → j < n → is i j = some (p i j)) (k : Nat) (hk : n * (n + 3) < k) :
    impl_relation.f k (n : Int) is = some ((n : Int), relList n n p) := by
  unfold impl_relation.f
  rw [if_pos (by omega), if_pos (by omega)]
  have e : ((n : Int)).toNat = n := by omega
  rw [e, part_start n n p]
  exact relation_l0 n hn is p h n k 0 (by omega) hk

theorem eqOrder_k (n : Int) (l : List Int) (hl : l.length ≤ 4611686018427387904) (k : Nat) (hk : l.length < k) : laws_eqOrder.f k n l n l = some true := by
  unfold laws_eqOrder.f
  rw [if_pos rfl, eqIntS_k l hl k hk]
  rfl
theorem markOrder_k (n : Int) (l : List Int) (hl : l.length ≤ 1048576) (k : Nat) (hk : l.length < k) : laws_markOrder.f k n l 1 = some (1 + (l.length : Int), iota 1 l.length) := by
  unfold laws_markOrder.f
  rw [markIntS_k l 1 (by omega) (by omega) k hk]
  rfl
theorem heldOrder_k (n : Int) (m : Nat) (hl : m ≤ 1048576) (k : Nat) (hk : m < k) : laws_heldOrder.f k n (iota 1 m) 1 = some (1 + (m : Int)) := by
  unfold laws_heldOrder.f
  rw [heldIntS_k 1 m (by omega) (by omega) k hk]
  simp only [Option.bind_some]
  rw [if_neg (by omega)]

/-- What a table reveals of a pair. -/
def revP (l : List Int) (i j : Nat) : Bool := decide (i ≠ j) && (rd l ((2 ^ i ||| 2 ^ j : Nat) : Int) == ((2 ^ j : Nat) : Int))
theorem pow_or_lt (m i j : Nat) (hi : i < m) (hj : j < m) : 2 ^ i ||| 2 ^ j < 2 ^ m := Nat.or_lt_two_pow (Nat.pow_lt_pow_right (by omega) hi) (Nat.pow_lt_pow_right (by omega) hj)
theorem revealed_1 (l : List Int) (m : Nat) (hm : m ≤ 4) (hl : l.length = 2 ^ m) (i j : Nat) (hi : i < m) (hj : j < m) : impl_revealed_1.f (i : Int) (j : Int) l = some (revP l i j) := by
  unfold impl_revealed_1.f revP
  have h1 := pow_or_lt m i j hi hj
  have e : Go.bits .or .i64 (shl .i64 1 (i : Int)) (shl .i64 1 (j : Int)) = ((2 ^ i ||| 2 ^ j : Nat) : Int) := by
    rw [shl_one i (by omega)]
    exact or_shl _ j (Nat.pow_lt_pow_right (by omega) (by omega)) (by omega)
  by_cases hij : i = j
  · subst hij
    simp
  · rw [if_neg (by omega), if_pos (by omega), if_pos (by omega), e, if_pos (by omega), if_pos (by omega), shl_one j (by omega)]
    simp [hij]
theorem cfRevealed_l0 (l : List Int) (n : Nat) (hn : n ≤ 4) (hl : l.length = 2 ^ n) :
    ∀ (d k i : Nat), i + d = n → d * (n + 3) < k → spec_cfRevealed.l0 k (n : Int) l (i : Int) (n : Int) (part n n (revP l) i 0) = some ((n : Int), relList n n (revP l)) := by
  intro d
  induction d with
  | zero =>
    intro k i hi hk
    obtain ⟨k, rfl⟩ : ∃ m, k = m + 1 := ⟨k - 1, by omega⟩
    simp only [spec_cfRevealed.l0]
    have e : i = n := by omega
    subst e
    rw [if_neg (by omega), part_end]
  | succ d ih =>
    intro k i hi hk
    rw [Nat.succ_mul] at hk
    obtain ⟨k, rfl⟩ : ∃ m, k = m + 1 := ⟨k - 1, by omega⟩
    simp only [spec_cfRevealed.l0]
    rw [if_pos (by omega)]
    have inner : ∀ (e k j : Nat), j + e = n → d * (n + 3) + 1 + e < k → spec_cfRevealed.l1 k (n : Int) l (i : Int) (j : Int) (n : Int) (part n n (revP l) i j) = some ((n : Int), relList n n (revP l)) := by
      intro e
      induction e with
      | zero =>
        intro k j hj hk
        obtain ⟨k, rfl⟩ : ∃ m, k = m + 1 := ⟨k - 1, by omega⟩
        simp only [spec_cfRevealed.l1]
        have e1 : ((i : Int) + 1) = ((i + 1 : Nat) : Int) := by omega
        have e2 : j = n := by omega
        subst e2
        rw [if_neg (by omega), wrap_ok (by omega) (by omega), e1, part_next]
        exact ih k (i + 1) (by omega) (by omega)
      | succ e ihe =>
        intro k j hj hk
        obtain ⟨k, rfl⟩ : ∃ m, k = m + 1 := ⟨k - 1, by omega⟩
        simp only [spec_cfRevealed.l1]
        have e1 : ((j : Int) + 1) = ((j + 1 : Nat) : Int) := by omega
        have e3 : (i : Int).toNat = i := by omega
        have h1 := pow_or_lt n i j (by omega) (by omega)
        have e4 : Go.bits .or .i64 (shl .i64 1 (i : Int)) (shl .i64 1 (j : Int)) = ((2 ^ i ||| 2 ^ j : Nat) : Int) := by
          rw [shl_one i (by omega)]
          exact or_shl _ j (Nat.pow_lt_pow_right (by omega) (by omega)) (by omega)
        have next := ihe k (j + 1) (by omega) (by omega)
        rw [if_pos (by omega), wrap_ok (by omega) (by omega), e1, e3]
        by_cases hij : i = j
        · have hp : revP l i j = false := by simp [revP, hij]
          rw [if_pos (by omega), part_skip n n (revP l) i j hp]
          exact next
        · rw [if_neg (by omega), if_pos (by omega), if_pos (by omega), e4, if_pos (by omega), if_pos (by omega)]
          by_cases hv : rd l ((2 ^ i ||| 2 ^ j : Nat) : Int) = shl .i64 1 (j : Int)
          · have hp : revP l i j = true := by
              rw [shl_one j (by omega)] at hv
              simp [revP, hij, hv]
            rw [if_pos hv, if_pos (by rw [part_length]; omega), part_rd n n (revP l) i j (by omega), or_shl _ j (Nat.lt_of_lt_of_le (bitsum_lt (revP l i) j) (Nat.pow_le_pow_right (by omega) (by omega))) (by omega), part_set n n (revP l) i j (by omega) hp]
            exact next
          · have hp : revP l i j = false := by
              rw [shl_one j (by omega)] at hv
              simp [revP, hij]
              simpa using hv
            rw [if_neg hv, part_skip n n (revP l) i j hp]
            exact next
    exact inner n k 0 (by omega) (by omega)
theorem cfRevealed_k (l : List Int) (n : Nat) (hn : n ≤ 4) (hl : l.length = 2 ^ n) (k : Nat) (hk : n * (n + 3) < k) : spec_cfRevealed.f k (n : Int) l = some ((n : Int), relList n n (revP l)) := by
  unfold spec_cfRevealed.f
  rw [if_pos (by omega), if_pos (by omega)]
  have e : ((n : Int)).toNat = n := by omega
  rw [e, part_start n n (revP l)]
  exact cfRevealed_l0 l n hn hl n k 0 (by omega) hk
theorem revealed_k (l : List Int) (n : Nat) (hn : n ≤ 4) (hl : l.length = 2 ^ n) (k : Nat) (hk : n * (n + 3) < k) : impl_revealed.f k (n : Int) l = some ((n : Int), relList n n (revP l)) := by
  unfold impl_revealed.f
  rw [relation_k n (by omega) _ (revP l) (fun i j hi hj => revealed_1 l n hn hl i j hi hj) k hk]
  rfl

theorem FnExactRevealedOf : laws_FnExactRevealedOf.Pure := by
  intro n l _ _ _ hw0
  have hw : ∀ x ∈ l, x < 9223372036854775808 := fun x hx => (wf_bounds (hw0 x hx)).2
  by_cases h : l.length ≤ 1048576
  · refine ⟨l.length + 500, ?_⟩
    have H : ∃ x y z, y.length ≤ 4 ∧ (∀ k, l.length + 400 < k → impl_RevealedOf.f k n l = some (x, y, z)) ∧ (∀ k, l.length + 400 < k → spec_RevealedOf.f k n l = some (x, y, z)) := by
      by_cases hc : IsChoice n l
      · obtain ⟨m, hm, rfl, hlen⟩ := hc.len
        refine ⟨(m : Int), relList m m (revP l), true, by rw [relList_length]; omega, fun k hk => ?_, fun k hk => ?_⟩
        all_goals
          obtain ⟨b, hb1, hb2, hb3⟩ := isChoice_k (m : Int) l h hw k (by omega)
          obtain rfl : b = true := hb3.2 hc
          have hmm : m * (m + 3) < k := by
            have : m * (m + 3) ≤ 4 * 7 := Nat.mul_le_mul hm (by omega)
            omega
        · unfold impl_RevealedOf.f
          simp only [hb1, Option.bind_some, if_true, revealed_k l m hm hlen k hmm]
        · unfold spec_RevealedOf.f
          simp only [hb2, Option.bind_some, if_true, cfRevealed_k l m hm hlen k hmm]
      · refine ⟨0, [], false, by simp, fun k hk => ?_, fun k hk => ?_⟩
        all_goals
          obtain ⟨b, hb1, hb2, hb3⟩ := isChoice_k n l h hw k (by omega)
          obtain rfl : b = false := by
            cases b
            · rfl
            · exact absurd (hb3.1 rfl) hc
        · unfold impl_RevealedOf.f
          simp only [hb1, Option.bind_some, if_neg Bool.false_ne_true]
        · unfold spec_RevealedOf.f
          simp only [hb2, Option.bind_some, if_neg Bool.false_ne_true]
    obtain ⟨x, y, z, hy, hI, hS⟩ := H
    unfold laws_FnExactRevealedOf.f
    rw [if_neg (by omega)]
    repeat (first
      | (rw [toIntS_k l h _ (by omega)]; simp only [Option.bind_some])
      | (rw [hS _ (by omega)]; simp only [Option.bind_some])
      | (rw [hI _ (by omega)]; simp only [Option.bind_some])
      | (rw [eqOrder_k _ _ (by omega) _ (by omega)]; simp only [Option.bind_some])
      | (rw [eqIntS_k _ (by omega) _ (by omega)]; simp only [Option.bind_some])
      | (rw [markIntS_k _ 1 (by omega) (by omega) _ (by omega)]; simp only [Option.bind_some])
      | (rw [markOrder_k _ _ (by omega) _ (by omega)]; simp only [Option.bind_some])
      | (rw [heldOrder_k _ _ (by omega) _ (by omega)]; simp only [Option.bind_some])
      | (simp only [if_true, Bool.false_eq_true, if_false, bne_self_eq_false, if_neg (one_add_nonneg _), if_pos rfl]; done)
      | (rw [if_neg (one_add_nonneg _)])
      | (rw [laws_FnExactRevealedOf.j0]; simp only [Bool.false_eq_true, if_false, if_true])
      | (rw [laws_FnExactRevealedOf.j1]; simp only [Bool.false_eq_true, if_false, if_true])
      | (rw [laws_FnExactRevealedOf.j2]; simp only [Bool.false_eq_true, if_false, if_true])
      | (simp only [if_true, Bool.false_eq_true, if_false, bne_self_eq_false]))
  · refine ⟨1, ?_⟩
    unfold laws_FnExactRevealedOf.f
    rw [if_pos (by omega)]

end Go.Proofs.Ytpdgdjgklcfjcaa.Pure
