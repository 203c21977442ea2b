/- IsRational: the program tells of every number and list what the reference tells; the card: the tables of the library as the program lays them. -/
import Derived.Test.YtcjofpajmhddkaaDoorPFnExactIsRationalx7
namespace Go.Proofs.YtcjofpajmhddkaaDoor.Pure
open Go.RowKit Go.Proofs.YtcjofpajmhddkaaDoor.PFnExactIsRational Go.Proofs.YtcjofpajmhddkaaDoorW.PrintWords Go.Proofs.YtcjofpajmhddkaaDoorW.PrintLast Go.Proofs.YtcjofpajmhddkaaDoorW.PrintMore
set_option linter.unusedVariables false
set_option linter.unusedSimpArgs false

theorem wrap_ok {x : Int} (h0 : -9223372036854775808 ≤ x) (h1 : x < 9223372036854775808) : wrap64 x = x := by unfold wrap64; omega
theorem wf_bounds {x : Int} (h : (Lit.int .i64 x).wf = true) : -9223372036854775808 ≤ x ∧ x < 9223372036854775808 := by
  have e : IntKind.i64.min ≤ x ∧ x ≤ 9223372036854775807 := by simpa [Lit.wf] using h
  have m : IntKind.i64.min = -9223372036854775808 := by decide
  omega
theorem rd_nat (l : List Int) (i : Nat) : rd l (i : Int) = l.getD i 0 := by simp [rd]

theorem toIntS_l0 (l : List Int) (hl : l.length ≤ 4611686018427387904) : ∀ (d k i : Nat) (x : List Int), i + d = l.length → d < k → x.length = l.length → (∀ j, j < i → x[j]? = l[j]?) → laws_toIntS.l0 k l x (i : Int) = some l := by
  intro d
  induction d with
  | zero =>
    intro k i x h hk hx hj
    obtain ⟨k, rfl⟩ : ∃ m, k = m + 1 := ⟨k - 1, by omega⟩
    simp only [laws_toIntS.l0]
    rw [if_neg (by omega)]
    congr 1
    apply List.ext_getElem?
    intro j
    by_cases hji : j < i
    · exact hj j hji
    · rw [List.getElem?_eq_none (by omega), List.getElem?_eq_none (by omega)]
  | succ d ih =>
    intro k i x h hk hx hj
    obtain ⟨k, rfl⟩ : ∃ m, k = m + 1 := ⟨k - 1, by omega⟩
    simp only [laws_toIntS.l0]
    rw [if_pos (by omega), if_pos (by omega), if_pos (by omega), wrap_ok (by omega) (by omega)]
    have e : ((i : Int) + 1) = ((i + 1 : Nat) : Int) := by omega
    rw [e]
    refine ih k (i + 1) _ (by omega) (by omega) (by simpa using hx) ?_
    intro j hji
    have e2 : (i : Int).toNat = i := by omega
    rw [e2, List.getElem?_set]
    by_cases hj2 : i = j
    · subst hj2
      rw [if_pos rfl, if_pos (by omega), rd_nat, List.getElem?_eq_getElem (by omega)]
      simp
      rw [List.getElem?_eq_getElem (by omega)]
      rfl
    · rw [if_neg hj2]
      exact hj j (by omega)
theorem toIntS_k (l : List Int) (hl : l.length ≤ 1048576) (k : Nat) (hk : l.length < k) : laws_toIntS.f k l = some l := by
  unfold laws_toIntS.f
  rw [if_pos (by omega), if_pos (by omega)]
  exact toIntS_l0 l (by omega) l.length k 0 _ (by omega) hk (by simp) (by intro j hj; omega)
theorem toIntS_ev (l : List Int) (hl : l.length ≤ 1048576) : Ev (fun k => laws_toIntS.f k l) l := ⟨l.length + 1, fun k hk => toIntS_k l hl k (by omega)⟩

theorem eqIntS_l0 (l : List Int) (hl : l.length ≤ 4611686018427387904) : ∀ (d k i : Nat), i + d = l.length → d < k → laws_eqIntS.l0 k l l (i : Int) = some true := by
  intro d
  induction d with
  | zero =>
    intro k i h hk
    obtain ⟨k, rfl⟩ : ∃ m, k = m + 1 := ⟨k - 1, by omega⟩
    simp only [laws_eqIntS.l0]
    rw [if_neg (by omega)]
  | succ d ih =>
    intro k i h hk
    obtain ⟨k, rfl⟩ : ∃ m, k = m + 1 := ⟨k - 1, by omega⟩
    simp only [laws_eqIntS.l0]
    rw [if_pos (by omega), if_pos (by omega), if_pos (by omega), if_true, wrap_ok (by omega) (by omega)]
    have e : ((i : Int) + 1) = ((i + 1 : Nat) : Int) := by omega
    rw [e]
    exact ih k (i + 1) (by omega) (by omega)
theorem eqIntS_k (l : List Int) (hl : l.length ≤ 4611686018427387904) (k : Nat) (hk : l.length < k) : laws_eqIntS.f k l l = some true := by
  unfold laws_eqIntS.f
  rw [if_pos rfl]
  exact eqIntS_l0 l hl l.length k 0 (by omega) hk
theorem eqIntS_ev (l : List Int) (hl : l.length ≤ 4611686018427387904) : Ev (fun k => laws_eqIntS.f k l l) true := ⟨l.length + 1, fun k hk => eqIntS_k l hl k (by omega)⟩

theorem within_eq (a b c : Int) : impl_within.f a b c = some (decide (b ≤ a ∧ a ≤ c)) := by
  unfold impl_within.f
  by_cases h : a ≥ b <;> simp [h] <;> omega
theorem l1In_eq (a b c : Int) : spec_l1In.f a b c = some (decide (b ≤ a ∧ a ≤ c)) := by
  unfold spec_l1In.f
  by_cases h : a ≥ b <;> simp [h] <;> omega

/-! Sets as numbers. -/
def andn (a b : Nat) : Nat := a ^^^ (a &&& b)
theorem andn_bit (a b i : Nat) : (andn a b).testBit i = (a.testBit i && !b.testBit i) := by
  unfold andn
  rw [Nat.testBit_xor, Nat.testBit_and]
  cases a.testBit i <;> cases b.testBit i <;> rfl
theorem wrap_i64_nat (n : Nat) (h : n < 2 ^ 63) : IntKind.i64.wrap (n : Int) = (n : Int) := by
  rw [IntKind.wrap_i64]
  have : (n : Int) < 9223372036854775808 := by omega
  omega
theorem ofInt_toNat (n : Nat) (h : n < 2 ^ 63) : (BitVec.ofInt 64 (n : Int)).toNat = n := by
  rw [BitVec.ofInt_natCast, BitVec.toNat_ofNat, Nat.mod_eq_of_lt (by omega)]
theorem and_nat (a b : Nat) (ha : a < 2 ^ 63) (hb : b < 2 ^ 63) : Go.bits .and .i64 (a : Int) (b : Int) = ((a &&& b : Nat) : Int) := by
  unfold Go.bits
  show IntKind.i64.wrap ((BitVec.ofInt 64 (a : Int) &&& BitVec.ofInt 64 (b : Int)).toNat : Int) = _
  rw [BitVec.toNat_and, ofInt_toNat a ha, ofInt_toNat b hb]
  exact wrap_i64_nat _ (Nat.lt_of_le_of_lt Nat.and_le_left ha)
theorem or_nat (a b : Nat) (ha : a < 2 ^ 63) (hb : b < 2 ^ 63) : Go.bits .or .i64 (a : Int) (b : Int) = ((a ||| b : Nat) : Int) := by
  unfold Go.bits
  show IntKind.i64.wrap ((BitVec.ofInt 64 (a : Int) ||| BitVec.ofInt 64 (b : Int)).toNat : Int) = _
  rw [BitVec.toNat_or, ofInt_toNat a ha, ofInt_toNat b hb]
  exact wrap_i64_nat _ (Nat.or_lt_two_pow ha hb)
theorem xor_nat (a b : Nat) (ha : a < 2 ^ 63) (hb : b < 2 ^ 63) : Go.bits .xor .i64 (a : Int) (b : Int) = ((a ^^^ b : Nat) : Int) := by
  unfold Go.bits
  show IntKind.i64.wrap ((BitVec.ofInt 64 (a : Int) ^^^ BitVec.ofInt 64 (b : Int)).toNat : Int) = _
  rw [BitVec.toNat_xor, ofInt_toNat a ha, ofInt_toNat b hb]
  exact wrap_i64_nat _ (Nat.xor_lt_two_pow ha hb)
theorem andn_le (a b : Nat) : andn a b ≤ a := Nat.le_of_testBit fun i h => by
  rw [andn_bit] at h
  cases h1 : a.testBit i
  · simp [h1] at h
  · rfl
theorem andNot_nat (a b : Nat) (ha : a < 2 ^ 63) (hb : b < 2 ^ 63) : Go.bits .andNot .i64 (a : Int) (b : Int) = ((andn a b : Nat) : Int) := by
  unfold Go.bits
  show IntKind.i64.wrap ((BitVec.ofInt 64 (a : Int) &&& ~~~ BitVec.ofInt 64 (b : Int)).toNat : Int) = _
  have e : (BitVec.ofInt 64 (a : Int) &&& ~~~ BitVec.ofInt 64 (b : Int)).toNat = andn a b := by
    apply Nat.eq_of_testBit_eq
    intro i
    rw [andn_bit, BitVec.toNat_and, Nat.testBit_and, ofInt_toNat a ha, BitVec.testBit_toNat, BitVec.getLsbD_not, BitVec.ofInt_natCast, BitVec.getLsbD_ofNat]
    by_cases hi : i < 64
    · rw [decide_eq_true hi]
      simp only [Bool.true_and]
    · have : a.testBit i = false := Nat.testBit_lt_two_pow (Nat.lt_of_lt_of_le ha (Nat.pow_le_pow_right (by omega) (by omega)))
      simp [this]
  rw [e]
  exact wrap_i64_nat _ (Nat.lt_of_le_of_lt (andn_le a b) ha)
theorem andn_zero (a b : Nat) : andn a b = 0 ↔ ∀ i, a.testBit i = true → b.testBit i = true := by
  constructor
  · intro h i hi
    have := andn_bit a b i
    rw [h, hi] at this
    cases hb : b.testBit i
    · simp [hb] at this
    · rfl
  · intro h
    apply Nat.eq_of_testBit_eq
    intro i
    rw [andn_bit]
    cases ha : a.testBit i
    · simp
    · simp [h i ha]
theorem andn_zero_le {a b : Nat} (h : andn a b = 0) : a ≤ b := Nat.le_of_testBit fun i hi => (andn_zero a b).1 h i hi
theorem andNot_le {p i : Int} (h0 : 0 ≤ p) (h1 : 0 ≤ i) (hp : p < 9223372036854775808) (hi : i < 9223372036854775808) (h : Go.bits .andNot .i64 p i = 0) : p ≤ i := by
  obtain ⟨a, rfl⟩ := Int.eq_ofNat_of_zero_le h0
  obtain ⟨b, rfl⟩ := Int.eq_ofNat_of_zero_le h1
  rw [andNot_nat a b (by omega) (by omega)] at h
  have := andn_zero_le (a := a) (b := b) (by omega)
  omega

/-- What a table has for the set j. -/
def GoodPart (j : Nat) (p : Int) : Prop := 0 ≤ p ∧ Go.bits .andNot .i64 p (j : Int) = 0 ∧ (p = 0 → j = 0)
theorem isChoice_l0 (l : List Int) (hl : l.length ≤ 4611686018427387904) (hw : ∀ x ∈ l, x < 9223372036854775808) : ∀ (d k i : Nat), i + d = l.length → d < k →
    ∃ b, impl_isChoice.l0 k l (l.length : Int) (i : Int) = some b ∧ spec_cfGood.l0 k l (l.length : Int) (i : Int) = some b ∧ (b = true ↔ ∀ j, i ≤ j → j < l.length → GoodPart j (l.getD j 0)) := by
  intro d
  induction d with
  | zero =>
    intro k i h hk
    obtain ⟨k, rfl⟩ : ∃ m, k = m + 1 := ⟨k - 1, by omega⟩
    simp only [impl_isChoice.l0, spec_cfGood.l0]
    exact ⟨true, by rw [if_neg (by omega)], by rw [if_neg (by omega)], by simp; intro j h1 h2; omega⟩
  | succ d ih =>
    intro k i h hk
    obtain ⟨k, rfl⟩ : ∃ m, k = m + 1 := ⟨k - 1, by omega⟩
    obtain ⟨b, hb1, hb2, hb3⟩ := ih k (i + 1) (by omega) (by omega)
    simp only [impl_isChoice.l0, spec_cfGood.l0]
    have e : ((i : Int) + 1) = ((i + 1 : Nat) : Int) := by omega
    have c1 : (i : Int) < (l.length : Int) := by omega
    have c2 : 0 ≤ (i : Int) := by omega
    simp only [c1, c2, if_true, wrap_ok (show -9223372036854775808 ≤ (i : Int) + 1 by omega) (show (i : Int) + 1 < 9223372036854775808 by omega), l1In_eq]
    rw [e, hb1, hb2]
    have hp : rd l (i : Int) < 9223372036854775808 := by
      rw [rd_nat, List.getD_eq_getElem?_getD, List.getElem?_eq_getElem (by omega)]
      exact hw _ (List.getElem_mem _)
    have hr : rd l (i : Int) = l.getD i 0 := rd_nat l i
    have bad : ¬ GoodPart i (l.getD i 0) → (false = true ↔ ∀ j, i ≤ j → j < l.length → GoodPart j (l.getD j 0)) := fun hn => ⟨fun hh => (by cases hh), fun hh => absurd (hh i (Nat.le_refl _) (by omega)) hn⟩
    have good : GoodPart i (l.getD i 0) → (b = true ↔ ∀ j, i ≤ j → j < l.length → GoodPart j (l.getD j 0)) := fun hg => hb3.trans ⟨fun hh j h1 h2 => if e : j = i then e ▸ hg else hh j (by omega) h2, fun hh j h1 h2 => hh j (by omega) h2⟩
    rw [← hr] at bad good
    generalize rd l (i : Int) = p at hp bad good ⊢
    simp only [Option.bind_some]
    by_cases h1 : Go.bits .andNot .i64 p (i : Int) = 0
    · simp only [h1, if_true]
      by_cases h2 : p < 0
      · exact ⟨false, by rw [if_pos h2], by rw [if_neg (by simp; omega)], bad (fun hg => by have := hg.1; omega)⟩
      · by_cases h3 : p = 0
        · by_cases h4 : (i : Int) = 0
          · refine ⟨b, ?_, ?_, good ⟨by omega, h1, fun _ => by omega⟩⟩
            · rw [if_neg h2, if_pos h3, if_pos h4]
            · rw [if_pos (by simp; omega), if_pos h3, if_neg (by omega)]
          · refine ⟨false, ?_, ?_, bad (fun hg => h4 (by have := hg.2.2 h3; omega))⟩
            · rw [if_neg h2, if_pos h3, if_neg h4]
            · rw [if_pos (by simp; omega), if_pos h3, if_pos (by omega)]
        · have h5 : p ≤ (i : Int) := andNot_le (by omega) (by omega) hp (by omega) h1
          refine ⟨b, ?_, ?_, good ⟨by omega, h1, fun h => absurd h h3⟩⟩
          · rw [if_neg h2, if_neg h3]
          · rw [if_pos (by simp; omega), if_neg h3]
    · refine ⟨false, by rw [if_neg h1], ?_, bad (fun hg => h1 hg.2.1)⟩
      by_cases h2 : 0 ≤ p ∧ p ≤ (i : Int)
      · rw [if_pos (by simpa using h2), if_neg h1]
      · rw [if_neg (by simpa using h2)]
/-- A table for n. -/
def IsChoice (n : Int) (l : List Int) : Prop := (0 ≤ n ∧ n ≤ 4) ∧ (l.length : Int) = shl .i64 1 n ∧ ∀ j, j < l.length → GoodPart j (l.getD j 0)
/-- Is a list a table for n? -/
theorem isChoice_k (n : Int) (l : List Int) (hl : l.length ≤ 1048576) (hw : ∀ x ∈ l, x < 9223372036854775808) (k : Nat) (hk : l.length + 1 < k) :
    ∃ b, impl_isChoice.f k n l = some b ∧ spec_cfGood.f k n l = some b ∧ (b = true ↔ IsChoice n l) := by
  obtain ⟨k, rfl⟩ : ∃ m, k = m + 1 := ⟨k - 1, by omega⟩
  unfold impl_isChoice.f spec_cfGood.f spec_cfSize.f IsChoice
  simp only [within_eq, l1In_eq, Option.bind_some]
  by_cases h : 0 ≤ n ∧ n ≤ 4
  · simp only [h, and_self, decide_true, if_true, impl_isChoice.j0, spec_cfGood.j0]
    by_cases h2 : (l.length : Int) = shl .i64 1 n
    · rw [if_neg (by simp [h2]), if_neg (by simp [h2])]
      obtain ⟨b, h3, h4, h5⟩ := isChoice_l0 l (by omega) hw l.length k 0 (by omega) (by omega)
      exact ⟨b, h3, h4, h5.trans ⟨fun hh => ⟨trivial, h2, fun j hj => hh j (by omega) hj⟩, fun hh j _ hj => hh.2.2 j hj⟩⟩
    · exact ⟨false, by rw [if_pos (by simpa using h2)], by rw [if_pos (by simpa using h2)], by simp [h2]⟩
  · simp only [h, decide_false, if_neg Bool.false_ne_true]
    exact ⟨false, by simp [impl_isChoice.j0], by simp [spec_cfGood.j0], by simp⟩
theorem shl_pow (n : Nat) (h : n ≤ 4) : shl .i64 1 (n : Int) = ((2 ^ n : Nat) : Int) := by
  rcases (show n = 0 ∨ n = 1 ∨ n = 2 ∨ n = 3 ∨ n = 4 by omega) with h | h | h | h | h <;> subst h <;> decide
theorem IsChoice.len {n : Int} {l : List Int} (h : IsChoice n l) : ∃ m : Nat, m ≤ 4 ∧ n = (m : Int) ∧ l.length = 2 ^ m := by
  obtain ⟨h1, h2, _⟩ := h
  refine ⟨n.toNat, by omega, by omega, ?_⟩
  have e : n = ((n.toNat : Nat) : Int) := by omega
  rw [e, shl_pow _ (by omega)] at h2
  exact_mod_cast h2
theorem IsChoice.part {n : Int} {l : List Int} (hw : ∀ x ∈ l, x < 9223372036854775808) (h : IsChoice n l) (j : Nat) (hj : j < l.length) : ∃ p : Nat, l.getD j 0 = (p : Int) ∧ p ≤ j := by
  obtain ⟨m, hm, _, hlen⟩ := h.len
  obtain ⟨h1, h2, _⟩ := h.2.2 j hj
  obtain ⟨p, hp⟩ := Int.eq_ofNat_of_zero_le h1
  have hp' : l.getD j 0 = (p : Int) := hp
  refine ⟨p, hp', ?_⟩
  have hlt : l.getD j 0 < 9223372036854775808 := by
    rw [List.getD_eq_getElem?_getD, List.getElem?_eq_getElem hj]
    exact hw _ (List.getElem_mem _)
  have := Nat.pow_le_pow_right (n := 2) (by omega) hm
  have := andNot_le (p := l.getD j 0) (i := (j : Int)) h1 (by omega) hlt (by omega) h2
  omega

/-- The set of the j < n for which q tells true. -/
def bitsum (q : Nat → Bool) : Nat → Nat
  | 0 => 0
  | j + 1 => bitsum q j ||| (if q j then 2 ^ j else 0)
theorem bitsum_lt (q : Nat → Bool) (n : Nat) : bitsum q n < 2 ^ n := by
  induction n with
  | zero => simp [bitsum]
  | succ n ih =>
    rw [bitsum]
    apply Nat.or_lt_two_pow
    · exact Nat.lt_of_lt_of_le ih (Nat.pow_le_pow_right (by omega) (by omega))
    · split
      · exact Nat.pow_lt_pow_right (by omega) (by omega)
      · exact Nat.two_pow_pos _
theorem bitsum_bit (q : Nat → Bool) (n i : Nat) : (bitsum q n).testBit i = (decide (i < n) && q i) := by
  induction n with
  | zero => simp [bitsum]
  | succ n ih =>
    rw [bitsum, Nat.testBit_or, ih]
    by_cases e : i = n
    · subst e
      cases h : q i <;> simp [Nat.testBit_two_pow_self]
    · have : (if q n then 2 ^ n else 0).testBit i = false := by
        split
        · rw [Nat.testBit_two_pow_of_ne (by omega)]
        · simp
      rw [this]
      by_cases h : i < n
      · simp [h, show i < n + 1 by omega]
      · simp [h, show ¬ i < n + 1 by omega]
theorem bitsum_congr {q q' : Nat → Bool} (n : Nat) (h : ∀ i, i < n → q i = q' i) : bitsum q n = bitsum q' n := by
  induction n with
  | zero => rfl
  | succ n ih => rw [bitsum, bitsum, ih (fun i hi => h i (by omega)), h n (by omega)]
theorem shl_one (j : Nat) (h : j < 62) : shl .i64 1 (j : Int) = ((2 ^ j : Nat) : Int) := by
  unfold shl
  have e : min (j : Int).toNat IntKind.i64.bits = j := by
    show min (j : Int).toNat 64 = j
    omega
  rw [e]
  have e2 : (1 : Int) * 2 ^ j = ((2 ^ j : Nat) : Int) := by simp
  rw [e2]
  exact wrap_i64_nat _ (Nat.pow_lt_pow_right (by omega) (by omega))
theorem or_shl (a j : Nat) (ha : a < 2 ^ 62) (hj : j < 62) : Go.bits .or .i64 (a : Int) (shl .i64 1 (j : Int)) = ((a ||| 2 ^ j : Nat) : Int) := by
  rw [shl_one j hj]
  exact or_nat a _ (Nat.lt_of_lt_of_le ha (by decide)) (Nat.pow_lt_pow_right (by omega) (by omega))
/-- The rows' sets. -/
def relList (R C : Nat) (p : Nat → Nat → Bool) : List Int := (List.range R).map fun i => ((bitsum (p i) C : Nat) : Int)
theorem relList_length (R C : Nat) (p : Nat → Nat → Bool) : (relList R C p).length = R := by simp [relList]
theorem relList_congr {R C : Nat} {p p' : Nat → Nat → Bool} (h : ∀ i j, i < R → j < C → p i j = p' i j) : relList R C p = relList R C p' := by
  unfold relList
  apply List.map_congr_left
  intro i hi
  rw [bitsum_congr C (fun j hj => h i j (by simpa using hi) hj)]
/-- A list that is being filled: the first i rows are whole, the row i has the columns < j, the others are 0. -/
def part (R C : Nat) (p : Nat → Nat → Bool) (i j : Nat) : List Int := (List.range R).map fun r => if r < i then ((bitsum (p r) C : Nat) : Int) else if r = i then ((bitsum (p r) j : Nat) : Int) else 0
theorem part_length (R C : Nat) (p : Nat → Nat → Bool) (i j : Nat) : (part R C p i j).length = R := by simp [part]
theorem part_start (R C : Nat) (p : Nat → Nat → Bool) : List.replicate R 0 = part R C p 0 0 := by
  apply List.ext_getElem?
  intro r
  by_cases h : r < R
  · simp [part, h, List.getElem?_replicate, bitsum]
  · rw [List.getElem?_eq_none (by simp; omega), List.getElem?_eq_none (by rw [part_length]; omega)]
theorem part_next (R C : Nat) (p : Nat → Nat → Bool) (i : Nat) : part R C p i C = part R C p (i + 1) 0 := by
  apply List.ext_getElem?
  intro r
  by_cases h : r < R
  · simp only [part, List.getElem?_map, List.getElem?_range h, Option.map_some]
    by_cases h1 : r < i
    · simp [h1, show r < i + 1 by omega]
    · by_cases h2 : r = i
      · simp [h2]
      · simp [h1, h2, show ¬ r < i + 1 by omega, bitsum]
  · rw [List.getElem?_eq_none (by rw [part_length]; omega), List.getElem?_eq_none (by rw [part_length]; omega)]
theorem part_end (R C : Nat) (p : Nat → Nat → Bool) : part R C p R 0 = relList R C p := by
  unfold part relList
  apply List.map_congr_left
  intro r hr
  rw [if_pos (by simpa using hr)]
theorem part_rd (R C : Nat) (p : Nat → Nat → Bool) (i j : Nat) (hi : i < R) : rd (part R C p i j) (i : Int) = ((bitsum (p i) j : Nat) : Int) := by
  rw [rd_nat]
  simp [part, List.getD_eq_getElem?_getD, hi]
theorem part_set (R C : Nat) (p : Nat → Nat → Bool) (i j : Nat) (hi : i < R) (hp : p i j = true) : (part R C p i j).set i ((bitsum (p i) j ||| 2 ^ j : Nat) : Int) = part R C p i (j + 1) := by
  apply List.ext_getElem?
  intro r
  by_cases h : r < R
  · rw [List.getElem?_set]
    simp only [part, List.getElem?_map, List.getElem?_range h, Option.map_some, List.length_map, List.length_range]
    by_cases e : i = r
    · subst e
      simp [h, bitsum, hp]
    · rw [if_neg e]
      simp [show ¬ r = i from fun h => e h.symm]
  · rw [List.getElem?_eq_none (by simp [part_length]; omega), List.getElem?_eq_none (by rw [part_length]; omega)]
theorem part_skip (R C : Nat) (p : Nat → Nat → Bool) (i j : Nat) (hp : p i j = false) : part R C p i j = part R C p i (j + 1) := by
  unfold part
  apply List.map_congr_left
  intro r _
  by_cases h1 : r < i
  · simp [h1]
  · by_cases h2 : r = i
    · subst h2
      simp [bitsum, hp]
    · simp [h1, h2]

theorem relation_l0 (n : Nat) (hn : n ≤ 60) (is : Int → Int → Option Bool) (p : Nat → Nat → Bool) (h : ∀ i j : Nat, i < n → j < n → is i j = some (p i j)) :
    ∀ (d k i : Nat), i + d = n → d * (n + 3) < k → impl_relation.l0 k (n : Int) is (n : Int) (i : Int) (n : Int) (part n n p i 0) = some ((n : Int), relList n n p) := by
  intro d
  induction d with
  | zero =>
    intro k i hi hk
    obtain ⟨k, rfl⟩ : ∃ m, k = m + 1 := ⟨k - 1, by omega⟩
    simp only [impl_relation.l0]
    have e : i = n := by omega
    subst e
    rw [if_neg (by omega), part_end]
  | succ d ih =>
    intro k i hi hk
    rw [Nat.succ_mul] at hk
    obtain ⟨k, rfl⟩ : ∃ m, k = m + 1 := ⟨k - 1, by omega⟩
    simp only [impl_relation.l0]
    rw [if_pos (by omega)]
    have inner : ∀ (e k j : Nat), j + e = n → d * (n + 3) + 1 + e < k → impl_relation.l1 k (n : Int) is (i : Int) (n : Int) (i : Int) (n : Int) (j : Int) (n : Int) (part n n p i j) = some ((n : Int), relList n n p) := by
      intro e
      induction e with
      | zero =>
        intro k j hj hk
        obtain ⟨k, rfl⟩ : ∃ m, k = m + 1 := ⟨k - 1, by omega⟩
        simp only [impl_relation.l1]
        have e1 : ((i : Int) + 1) = ((i + 1 : Nat) : Int) := by omega
        have e2 : j = n := by omega
        subst e2
        rw [if_neg (by omega), wrap_ok (by omega) (by omega), e1, part_next]
        exact ih k (i + 1) (by omega) (by omega)
      | succ e ihe =>
        intro k j hj hk
        obtain ⟨k, rfl⟩ : ∃ m, k = m + 1 := ⟨k - 1, by omega⟩
        simp only [impl_relation.l1]
        have e1 : ((j : Int) + 1) = ((j + 1 : Nat) : Int) := by omega
        have e3 : (i : Int).toNat = i := by omega
        rw [if_pos (by omega), h i j (by omega) (by omega), wrap_ok (by omega) (by omega), e1, e3]
        simp only [Option.bind_some]
        cases hp : p i j
        · rw [if_neg (by simp), part_skip n n p i j hp]
          exact ihe k (j + 1) (by omega) (by omega)
        · rw [if_pos rfl, if_pos (by omega), if_pos (by rw [part_length]; omega), if_pos (by omega), part_rd n n p i j (by omega), or_shl _ j (Nat.lt_of_lt_of_le (bitsum_lt (p i) j) (Nat.pow_le_pow_right (by omega) (by omega))) (by omega), part_set n n p i j (by omega) hp]
          exact ihe k (j + 1) (by omega) (by omega)
    exact inner n k 0 (by omega) (by omega)
/-- The relation of what is told of each pair. -/
theorem relation_k (n : Nat) (hn : n ≤ 60) (is : Int → Int → Option Bool) (p : Nat → Nat → Bool) (h : ∀ i j : Nat, i < n → j < n → is i j = some (p i j)) (k : Nat) (hk : n * (n + 3) < k) :
    impl_relation.f k (n : Int) is = some ((n : Int), relList n n p) := by
  unfold impl_relation.f
  rw [if_pos (by omega), if_pos (by omega)]
  have e : ((n : Int)).toNat = n := by omega
  rw [e, part_start n n p]
  exact relation_l0 n hn is p h n k 0 (by omega) hk

/-- What a table reveals of a pair. -/
def revP (l : List Int) (i j : Nat) : Bool := decide (i ≠ j) && (rd l ((2 ^ i ||| 2 ^ j : Nat) : Int) == ((2 ^ j : Nat) : Int))
theorem pow_or_lt (m i j : Nat) (hi : i < m) (hj : j < m) : 2 ^ i ||| 2 ^ j < 2 ^ m := Nat.or_lt_two_pow (Nat.pow_lt_pow_right (by omega) hi) (Nat.pow_lt_pow_right (by omega) hj)
theorem revealed_1 (l : List Int) (m : Nat) (hm : m ≤ 4) (hl : l.length = 2 ^ m) (i j : Nat) (hi : i < m) (hj : j < m) : impl_revealed_1.f (i : Int) (j : Int) l = some (revP l i j) := by
  unfold impl_revealed_1.f revP
  have h1 := pow_or_lt m i j hi hj
  have e : Go.bits .or .i64 (shl .i64 1 (i : Int)) (shl .i64 1 (j : Int)) = ((2 ^ i ||| 2 ^ j : Nat) : Int) := by
    rw [shl_one i (by omega)]
    exact or_shl _ j (Nat.pow_lt_pow_right (by omega) (by omega)) (by omega)
  by_cases hij : i = j
  · subst hij
    simp
  · rw [if_neg (by omega), if_pos (by omega), if_pos (by omega), e, if_pos (by omega), if_pos (by omega), shl_one j (by omega)]
    simp [hij]
theorem cfRevealed_l0 (l : List Int) (n : Nat) (hn : n ≤ 4) (hl : l.length = 2 ^ n) :
    ∀ (d k i : Nat), i + d = n → d * (n + 3) < k → spec_cfRevealed.l0 k (n : Int) l (i : Int) (n : Int) (part n n (revP l) i 0) = some ((n : Int), relList n n (revP l)) := by
  intro d
  induction d with
  | zero =>
    intro k i hi hk
    obtain ⟨k, rfl⟩ : ∃ m, k = m + 1 := ⟨k - 1, by omega⟩
    simp only [spec_cfRevealed.l0]
    have e : i = n := by omega
    subst e
    rw [if_neg (by omega), part_end]
  | succ d ih =>
    intro k i hi hk
    rw [Nat.succ_mul] at hk
    obtain ⟨k, rfl⟩ : ∃ m, k = m + 1 := ⟨k - 1, by omega⟩
    simp only [spec_cfRevealed.l0]
    rw [if_pos (by omega)]
    have inner : ∀ (e k j : Nat), j + e = n → d * (n + 3) + 1 + e < k → spec_cfRevealed.l1 k (n : Int) l (i : Int) (j : Int) (n : Int) (part n n (revP l) i j) = some ((n : Int), relList n n (revP l)) := by
      intro e
      induction e with
      | zero =>
        intro k j hj hk
        obtain ⟨k, rfl⟩ : ∃ m, k = m + 1 := ⟨k - 1, by omega⟩
        simp only [spec_cfRevealed.l1]
        have e1 : ((i : Int) + 1) = ((i + 1 : Nat) : Int) := by omega
        have e2 : j = n := by omega
        subst e2
        rw [if_neg (by omega), wrap_ok (by omega) (by omega), e1, part_next]
        exact ih k (i + 1) (by omega) (by omega)
      | succ e ihe =>
        intro k j hj hk
        obtain ⟨k, rfl⟩ : ∃ m, k = m + 1 := ⟨k - 1, by omega⟩
        simp only [spec_cfRevealed.l1]
        have e1 : ((j : Int) + 1) = ((j + 1 : Nat) : Int) := by omega
        have e3 : (i : Int).toNat = i := by omega
        have h1 := pow_or_lt n i j (by omega) (by omega)
        have e4 : Go.bits .or .i64 (shl .i64 1 (i : Int)) (shl .i64 1 (j : Int)) = ((2 ^ i ||| 2 ^ j : Nat) : Int) := by
          rw [shl_one i (by omega)]
          exact or_shl _ j (Nat.pow_lt_pow_right (by omega) (by omega)) (by omega)
        have next := ihe k (j + 1) (by omega) (by omega)
        rw [if_pos (by omega), wrap_ok (by omega) (by omega), e1, e3]
        by_cases hij : i = j
        · have hp : revP l i j = false := by simp [revP, hij]
          rw [if_pos (by omega), part_skip n n (revP l) i j hp]
          exact next
        · rw [if_neg (by omega), if_pos (by omega), if_pos (by omega), e4, if_pos (by omega), if_pos (by omega)]
          by_cases hv : rd l ((2 ^ i ||| 2 ^ j : Nat) : Int) = shl .i64 1 (j : Int)
          · have hp : revP l i j = true := by
              rw [shl_one j (by omega)] at hv
              simp [revP, hij, hv]
            rw [if_pos hv, if_pos (by rw [part_length]; omega), part_rd n n (revP l) i j (by omega), or_shl _ j (Nat.lt_of_lt_of_le (bitsum_lt (revP l i) j) (Nat.pow_le_pow_right (by omega) (by omega))) (by omega), part_set n n (revP l) i j (by omega) hp]
            exact next
          · have hp : revP l i j = false := by
              rw [shl_one j (by omega)] at hv
              simp [revP, hij]
              simpa using hv
            rw [if_neg hv, part_skip n n (revP l) i j hp]
            exact next
    exact inner n k 0 (by omega) (by omega)
theorem cfRevealed_k (l : List Int) (n : Nat) (hn : n ≤ 4) (hl : l.length = 2 ^ n) (k : Nat) (hk : n * (n + 3) < k) : spec_cfRevealed.f k (n : Int) l = some ((n : Int), relList n n (revP l)) := by
  unfold spec_cfRevealed.f
  rw [if_pos (by omega), if_pos (by omega)]
  have e : ((n : Int)).toNat = n := by omega
  rw [e, part_start n n (revP l)]
  exact cfRevealed_l0 l n hn hl n k 0 (by omega) hk
theorem revealed_k (l : List Int) (n : Nat) (hn : n ≤ 4) (hl : l.length = 2 ^ n) (k : Nat) (hk : n * (n + 3) < k) : impl_revealed.f k (n : Int) l = some ((n : Int), relList n n (revP l)) := by
  unfold impl_revealed.f
  rw [relation_k n (by omega) _ (revP l) (fun i j hi hj => revealed_1 l n hn hl i j hi hj) k hk]
  rfl

theorem getD_lt {ms : List Nat} {b : Nat} (hb : 0 < b) (h : ∀ x ∈ ms, x < b) (i : Nat) : ms.getD i 0 < b := by
  rw [List.getD_eq_getElem?_getD]
  cases hx : ms[i]? with
  | none => simpa using hb
  | some x => exact h x (List.mem_of_getElem? hx)

/-- The bit of a number, as Go asks it. -/
theorem shr_nat (x c : Nat) (hc : c < 64) : shr .i64 (x : Int) (c : Int) = ((x / 2 ^ c : Nat) : Int) := by
  unfold shr
  have e : min (c : Int).toNat IntKind.i64.bits = c := by
    show min (c : Int).toNat 64 = c
    omega
  rw [e]
  simp

theorem bit_and (x c : Nat) (hx : x < 2 ^ 63) (hc : c < 64) : (Go.bits .and .i64 (shr .i64 (x : Int) (c : Int)) 1 == 1) = x.testBit c := by
  rw [shr_nat x c hc]
  have h1 : x / 2 ^ c < 2 ^ 63 := Nat.lt_of_le_of_lt (Nat.div_le_self _ _) hx
  have e : Go.bits .and .i64 ((x / 2 ^ c : Nat) : Int) 1 = ((x / 2 ^ c &&& 1 : Nat) : Int) := and_nat _ 1 h1 (by decide)
  rw [e, Nat.and_one_is_mod]
  have e2 : x.testBit c = decide (x / 2 ^ c % 2 = 1) := Nat.testBit_eq_decide_div_mod_eq
  rw [e2]
  by_cases h : x / 2 ^ c % 2 = 1
  · simp [h]
  · have : x / 2 ^ c % 2 = 0 := by omega
    simp [this]

theorem tmod_nat (n : Nat) : Int.tmod (n : Int) 2 = ((n % 2 : Nat) : Int) := by
  rw [Int.tmod_eq_emod_of_nonneg (by omega)]
  omega
theorem orHas_k (x i : Nat) (hi : i < 64) : spec_orHas.f (x : Int) (i : Int) = some (x.testBit i) := by
  unfold spec_orHas.f
  rw [if_pos (by omega), shr_nat x i hi, tmod_nat]
  have e2 : x.testBit i = decide (x / 2 ^ i % 2 = 1) := Nat.testBit_eq_decide_div_mod_eq
  rw [e2]
  congr 1
  by_cases h : x / 2 ^ i % 2 = 1
  · simp [h]
  · have : x / 2 ^ i % 2 = 0 := by omega
    simp [this]

/-- The elements of a set that are less than m. -/
def elemsTo (x m : Nat) : List Nat := (List.range m).filter x.testBit
theorem elemsTo_succ (x m : Nat) : elemsTo x (m + 1) = elemsTo x m ++ (if x.testBit m = true then [m] else []) := by
  unfold elemsTo
  rw [List.range_succ, List.filter_append]
  by_cases h : x.testBit m = true <;> simp [h]
theorem elemsTo_length (x m : Nat) : (elemsTo x m).length ≤ m := by
  have := List.length_filter_le x.testBit (List.range m)
  simpa [elemsTo] using this
theorem elemsTo_more (x i d : Nat) (h : x < 2 ^ i) : elemsTo x (i + d) = elemsTo x i := by
  induction d with
  | zero => rfl
  | succ d ih =>
    rw [show i + (d + 1) = (i + d) + 1 from rfl, elemsTo_succ, ih]
    have : x.testBit (i + d) = false := Nat.testBit_lt_two_pow (Nat.lt_of_lt_of_le h (Nat.pow_le_pow_right (by omega) (by omega)))
    simp [this]
theorem orList_l0 (x m : Nat) (hx : x < 2 ^ m) (hm : m ≤ 60) : ∀ (d k i : Nat), i + d = m → d < k → spec_orList.l0 k (x : Int) ((elemsTo x i).map (fun (y : Nat) => (y : Int))) (i : Int) = some ((elemsTo x m).map (fun (y : Nat) => (y : Int))) := by
  intro d
  induction d with
  | zero =>
    intro k i hi hk
    obtain ⟨k, rfl⟩ : ∃ q, k = q + 1 := ⟨k - 1, by omega⟩
    have e : i = m := by omega
    subst e
    have h0 : x / 2 ^ i = 0 := Nat.div_eq_of_lt hx
    simp only [spec_orList.l0]
    rw [if_pos (by omega), shr_nat x i (by omega), h0, if_neg (by omega)]
  | succ d ih =>
    intro k i hi hk
    obtain ⟨k, rfl⟩ : ∃ q, k = q + 1 := ⟨k - 1, by omega⟩
    simp only [spec_orList.l0]
    rw [if_pos (by omega), shr_nat x i (by omega)]
    by_cases h0 : x / 2 ^ i = 0
    · rw [h0, if_neg (by omega)]
      have hlt : x < 2 ^ i := by
        have := Nat.div_eq_zero_iff.1 h0
        have hp := Nat.two_pow_pos i
        omega
      have := elemsTo_more x i (d + 1) hlt
      rw [hi] at this
      rw [this]
    · have hl := elemsTo_length x i
      have next := ih k (i + 1) (by omega) (by omega)
      have hpos : ((x / 2 ^ i : Nat) : Int) > 0 := Int.natCast_pos.2 (Nat.pos_of_ne_zero h0)
      rw [if_pos hpos, orHas_k x i (by omega), wrap_ok (by omega) (by omega), show ((i : Int) + 1) = ((i + 1 : Nat) : Int) by omega]
      simp only [Option.bind_some]
      rw [elemsTo_succ] at next
      cases hb : x.testBit i
      · rw [if_neg (by simp)]
        simpa [hb] using next
      · rw [if_pos rfl, if_pos (by simp; omega)]
        simpa [hb] using next
theorem orList_k (x m : Nat) (hx : x < 2 ^ m) (hm : m ≤ 60) (k : Nat) (hk : m < k) : spec_orList.f k (x : Int) = some ((elemsTo x m).map (fun (y : Nat) => (y : Int))) := by
  unfold spec_orList.f
  exact orList_l0 x m hx hm m k 0 (by omega) hk

theorem rd_map (ms : List Nat) (i : Nat) : rd (ms.map (fun (x : Nat) => (x : Int))) (i : Int) = ((ms.getD i 0 : Nat) : Int) := by
  rw [rd_nat]
  simp only [List.getD_eq_getElem?_getD, List.getElem?_map]
  cases ms[i]? <;> simp

theorem bit_of_ne {x : Nat} (h : x ≠ 0) : ∃ i, x.testBit i = true := by
  apply Classical.byContradiction
  intro hn
  apply h
  apply Nat.eq_of_testBit_eq
  intro i
  rw [Nat.zero_testBit]
  cases hb : x.testBit i
  · rfl
  · exact absurd ⟨i, hb⟩ hn

theorem better_k (N : Int) (l : List Int) (i j x : Nat) (hi : i < l.length) (hx : rd l (i : Int) = (x : Int)) (hx2 : x < 2 ^ 60) (hj : j < 60) : impl_Order_better.f N l (i : Int) (j : Int) = some (x.testBit j) := by
  unfold impl_Order_better.f
  rw [if_pos (by omega), if_pos (by omega), if_pos (by omega), hx, bit_and x j (by omega) (by omega)]

/-- The relation with paths through the elements before t. -/
def W (ms : List Nat) : Nat → Nat → Nat → Bool
  | 0, i, j => (ms.getD i 0).testBit j
  | t + 1, i, j => W ms t i j || (W ms t i t && W ms t t j)
theorem W_up {ms : List Nat} {t i j : Nat} (h : W ms t i j = true) : W ms (t + 1) i j = true := by simp [W, h]
theorem W_rel {ms : List Nat} {i j : Nat} (h : W ms 0 i j = true) (t : Nat) : W ms t i j = true := by
  induction t with
  | zero => exact h
  | succ t ih => exact W_up ih
theorem W_succ {ms : List Nat} {t i j : Nat} : W ms (t + 1) i j = true ↔ W ms t i j = true ∨ (W ms t i t = true ∧ W ms t t j = true) := by simp [W]
theorem W_mid (ms : List Nat) : ∀ t k i j, k < t → W ms t i k = true → W ms t k j = true → W ms t i j = true := by
  intro t
  induction t with
  | zero => intro k i j h; omega
  | succ t ih =>
    intro k i j hk h1 h2
    rw [W_succ] at h1 h2 ⊢
    by_cases e : k = t
    · subst e
      have g1 : W ms k i k = true := by rcases h1 with h | h; exact h; exact h.1
      have g2 : W ms k k j = true := by rcases h2 with h | h; exact h; exact h.2
      exact Or.inr ⟨g1, g2⟩
    · have hk2 : k < t := by omega
      rcases h1 with h1 | ⟨h1, h1'⟩
      · rcases h2 with h2 | ⟨h2, h2'⟩
        · exact Or.inl (ih k i j hk2 h1 h2)
        · exact Or.inr ⟨ih k i t hk2 h1 h2, h2'⟩
      · rcases h2 with h2 | ⟨h2, h2'⟩
        · exact Or.inr ⟨h1, ih k t j hk2 h1' h2⟩
        · exact Or.inr ⟨h1, h2'⟩
theorem W_min (ms : List Nat) (T : Nat → Nat → Prop) (ht : ∀ i k j, T i k → T k j → T i j) (hr : ∀ i j, W ms 0 i j = true → T i j) : ∀ t i j, W ms t i j = true → T i j := by
  intro t
  induction t with
  | zero => exact hr
  | succ t ih =>
    intro i j h
    rcases W_succ.1 h with h | ⟨h1, h2⟩
    · exact ih i j h
    · exact ht i t j (ih i t h1) (ih t j h2)
theorem W_lt {ms : List Nat} {n : Nat} (hl : ms.length = n) (hb : ∀ x ∈ ms, x < 2 ^ n) : ∀ t i j, W ms t i j = true → i < n ∧ j < n := by
  have h0 : ∀ i j, W ms 0 i j = true → i < n ∧ j < n := by
    intro i j h
    simp only [W] at h
    refine ⟨Nat.lt_of_not_le fun hi => ?_, Nat.lt_of_not_le fun hj => ?_⟩
    · rw [List.getD_eq_getElem?_getD, List.getElem?_eq_none (by omega)] at h
      simp at h
    · have := getD_lt (Nat.two_pow_pos n) hb i
      rw [Nat.testBit_lt_two_pow (Nat.lt_of_lt_of_le this (Nat.pow_le_pow_right (by omega) hj))] at h
      cases h
  intro t
  induction t with
  | zero => exact h0
  | succ t ih =>
    intro i j h
    rcases W_succ.1 h with h | ⟨h1, h2⟩
    · exact ih i j h
    · exact ⟨(ih i t h1).1, (ih t j h2).2⟩
theorem W_trans {ms : List Nat} {n : Nat} (hl : ms.length = n) (hb : ∀ x ∈ ms, x < 2 ^ n) {i k j : Nat} (h1 : W ms n i k = true) (h2 : W ms n k j = true) : W ms n i j = true := W_mid ms n k i j (W_lt hl hb n i k h1).2 h1 h2
theorem W_first {ms : List Nat} {n : Nat} (hl : ms.length = n) (hb : ∀ x ∈ ms, x < 2 ^ n) {i j : Nat} (h : W ms n i j = true) : W ms 0 i j = true ∨ ∃ k, W ms 0 i k = true ∧ W ms n k j = true := by
  have up : ∀ i j, (W ms 0 i j = true ∨ ∃ k, W ms 0 i k = true ∧ W ms n k j = true) → W ms n i j = true := by
    rintro i j (h | ⟨k, h1, h2⟩)
    · exact W_rel h n
    · exact W_trans hl hb (W_rel h1 n) h2
  refine W_min ms (fun i j => W ms 0 i j = true ∨ ∃ k, W ms 0 i k = true ∧ W ms n k j = true) ?_ (fun i j h => Or.inl h) n i j h
  rintro i k j (h1 | ⟨q, h1, h2⟩) h3
  · exact Or.inr ⟨k, h1, up k j h3⟩
  · exact Or.inr ⟨q, h1, W_trans hl hb h2 (up k j h3)⟩
/-- The rows while the paths through t are taken in: those before i are done. -/
def wmix (n : Nat) (ms : List Nat) (t i : Nat) : List Int := (List.range n).map fun r => if r < i then ((bitsum (W ms (t + 1) r) n : Nat) : Int) else ((bitsum (W ms t r) n : Nat) : Int)
theorem wmix_length (n : Nat) (ms : List Nat) (t i : Nat) : (wmix n ms t i).length = n := by simp [wmix]
theorem bitsum_self (x n : Nat) (h : x < 2 ^ n) : bitsum x.testBit n = x := by
  apply Nat.eq_of_testBit_eq
  intro i
  rw [bitsum_bit]
  by_cases hi : i < n
  · simp [hi]
  · rw [Nat.testBit_lt_two_pow (Nat.lt_of_lt_of_le h (Nat.pow_le_pow_right (by omega) (by omega)))]
    simp
theorem wmix_start (n : Nat) (ms : List Nat) (hl : ms.length = n) (hb : ∀ x ∈ ms, x < 2 ^ n) : ms.map (fun (x : Nat) => (x : Int)) = wmix n ms 0 0 := by
  apply List.ext_getElem?
  intro r
  by_cases h : r < n
  · have h2 : r < ms.length := by omega
    have e : bitsum (W ms 0 r) n = ms[r] := by
      have e2 : W ms 0 r = (ms[r]).testBit := by
        funext j
        simp [W, h2]
      rw [e2]
      exact bitsum_self _ _ (hb _ (List.getElem_mem h2))
    simp [wmix, h, h2, e]
  · rw [List.getElem?_eq_none (by simp; omega), List.getElem?_eq_none (by rw [wmix_length]; omega)]
theorem wmix_next (n : Nat) (ms : List Nat) (t : Nat) : wmix n ms t n = wmix n ms (t + 1) 0 := by
  unfold wmix
  apply List.map_congr_left
  intro r hr
  rw [if_pos (by simpa using hr), if_neg (by omega)]
theorem wmix_rd (n : Nat) (ms : List Nat) (t i r : Nat) (hr : r < n) : rd (wmix n ms t i) (r : Int) = if r < i then ((bitsum (W ms (t + 1) r) n : Nat) : Int) else ((bitsum (W ms t r) n : Nat) : Int) := by
  rw [rd_nat]
  simp [wmix, List.getD_eq_getElem?_getD, hr]
theorem W_own (ms : List Nat) (t j : Nat) : W ms (t + 1) t j = W ms t t j := by
  rw [W]
  cases W ms t t j <;> simp
theorem wmix_rd_own (n : Nat) (ms : List Nat) (t i : Nat) (ht : t < n) : rd (wmix n ms t i) (t : Int) = ((bitsum (W ms t t) n : Nat) : Int) := by
  rw [wmix_rd n ms t i t ht]
  have e : W ms (t + 1) t = W ms t t := by
    funext j
    exact W_own ms t j
  rw [e]
  split <;> rfl
theorem wmix_set (n : Nat) (ms : List Nat) (t i : Nat) (h : W ms t i t = true) : (wmix n ms t i).set i ((bitsum (W ms t i) n ||| bitsum (W ms t t) n : Nat) : Int) = wmix n ms t (i + 1) := by
  apply List.ext_getElem?
  intro r
  by_cases hr : r < n
  · rw [List.getElem?_set]
    simp only [wmix, List.getElem?_map, List.getElem?_range hr, Option.map_some, List.length_map, List.length_range]
    by_cases e : i = r
    · subst e
      have e2 : bitsum (W ms t i) n ||| bitsum (W ms t t) n = bitsum (W ms (t + 1) i) n := by
        apply Nat.eq_of_testBit_eq
        intro j
        rw [Nat.testBit_or, bitsum_bit, bitsum_bit, bitsum_bit, W, h]
        cases decide (j < n) <;> simp
      rw [if_pos rfl, if_pos hr, if_pos (by omega), e2]
    · rw [if_neg e]
      by_cases h1 : r < i
      · rw [if_pos h1, if_pos (by omega)]
      · rw [if_neg h1, if_neg (by omega)]
  · rw [List.getElem?_eq_none (by simp [wmix_length]; omega), List.getElem?_eq_none (by rw [wmix_length]; omega)]
theorem wmix_skip (n : Nat) (ms : List Nat) (t i : Nat) (h : W ms t i t = false) : wmix n ms t i = wmix n ms t (i + 1) := by
  unfold wmix
  apply List.map_congr_left
  intro r _
  by_cases h1 : r < i
  · rw [if_pos h1, if_pos (by omega)]
  · rw [if_neg h1]
    by_cases e : r = i
    · subst e
      have e2 : W ms (t + 1) r = W ms t r := by
        funext j
        simp [W, h]
      rw [if_pos (by omega), e2]
    · rw [if_neg (by omega)]
theorem closed_l0 (n : Nat) (hn : n ≤ 10) (ms : List Nat) (l : List Int) : ∀ (d k t : Nat), t + d = n → d * (n + 2) < k →
    impl_Order_closed.l0 k (n : Int) (t : Int) (n : Int) l (n : Int) (wmix n ms t 0) = some ((n : Int), wmix n ms n 0) := by
  intro d
  induction d with
  | zero =>
    intro k t ht hk
    obtain ⟨k, rfl⟩ : ∃ m, k = m + 1 := ⟨k - 1, by omega⟩
    simp only [impl_Order_closed.l0]
    have e : t = n := by omega
    rw [if_neg (by omega), e]
  | succ d ih =>
    intro k t ht hk
    rw [Nat.succ_mul] at hk
    obtain ⟨k, rfl⟩ : ∃ m, k = m + 1 := ⟨k - 1, by omega⟩
    simp only [impl_Order_closed.l0]
    rw [if_pos (by omega)]
    have h2 : 2 ^ n ≤ 2 ^ 10 := Nat.pow_le_pow_right (by omega) hn
    have inner : ∀ (e k i : Nat), i + e = n → d * (n + 2) + 1 + e < k → impl_Order_closed.l1 k (t : Int) (n : Int) (t : Int) (n : Int) (i : Int) (n : Int) l (n : Int) (wmix n ms t i) = some ((n : Int), wmix n ms n 0) := by
      intro e
      induction e with
      | zero =>
        intro k i hi hk
        obtain ⟨k, rfl⟩ : ∃ m, k = m + 1 := ⟨k - 1, by omega⟩
        simp only [impl_Order_closed.l1]
        have e2 : i = n := by omega
        subst e2
        rw [if_neg (by omega), wrap_ok (by omega) (by omega), show ((t : Int) + 1) = ((t + 1 : Nat) : Int) by omega, wmix_next]
        exact ih k (t + 1) (by omega) (by omega)
      | succ e ihe =>
        intro k i hi hk
        obtain ⟨k, rfl⟩ : ∃ m, k = m + 1 := ⟨k - 1, by omega⟩
        simp only [impl_Order_closed.l1]
        have next := ihe k (i + 1) (by omega) (by omega)
        have r1 : rd (wmix n ms t i) (i : Int) = ((bitsum (W ms t i) n : Nat) : Int) := by
          rw [wmix_rd n ms t i i (by omega), if_neg (by omega)]
        have b1 := bitsum_lt (W ms t i) n
        have b2 := bitsum_lt (W ms t t) n
        have e3 : (i : Int).toNat = i := by omega
        rw [if_pos (by omega), better_k (n : Int) _ i t _ (by rw [wmix_length]; omega) r1 (by omega) (by omega), bitsum_bit, decide_eq_true (show t < n by omega), Bool.true_and, wmix_length, wrap_ok (x := (i : Int) + 1) (by omega) (by omega), show ((i : Int) + 1) = ((i + 1 : Nat) : Int) by omega, r1, wmix_rd_own n ms t i (by omega), or_nat _ _ (by omega) (by omega), e3]
        simp only [Option.bind_some]
        cases hw : W ms t i t
        · rw [if_neg (by simp), wmix_skip n ms t i hw]
          exact next
        · rw [if_pos rfl, if_pos (by omega), if_pos (by omega), if_pos (by omega), if_pos (by omega), wmix_set n ms t i hw]
          exact next
    exact inner n k 0 (by omega) (by omega)
theorem closed_k (n : Nat) (hn : n ≤ 10) (ms : List Nat) (hl : ms.length = n) (hb : ∀ x ∈ ms, x < 2 ^ n) (k : Nat) (hk : 120 < k) :
    impl_Order_closed.f k (n : Int) (ms.map (fun (x : Nat) => (x : Int))) = some ((n : Int), wmix n ms n 0) := by
  unfold impl_Order_closed.f slices_Clone_int_int.f
  have lm : (ms.map (fun (x : Nat) => (x : Int))).length = n := by simp [hl]
  have hm : n * (n + 2) ≤ 10 * 12 := Nat.mul_le_mul hn (by omega)
  rw [if_pos (by omega)]
  simp only [Option.bind_some]
  have := closed_l0 n hn ms (ms.map (fun (x : Nat) => (x : Int))) n k 0 (by omega) (by omega)
  rw [← wmix_start n ms hl hb] at this
  exact this
/-- Is no element better than itself along a path? -/
def noCycle (n : Nat) (ms : List Nat) : Bool := (List.range' 0 n).all fun i => !W ms n i i
theorem acyclic_l0 (n : Nat) (hn : n ≤ 10) (ms : List Nat) : ∀ (d k i : Nat), i + d = n → d < k → impl_Order_acyclic.l0 k (n : Int) (i : Int) (n : Int) (wmix n ms n 0) = some ((List.range' i d).all fun i => !W ms n i i) := by
  intro d
  induction d with
  | zero =>
    intro k i hi hk
    obtain ⟨k, rfl⟩ : ∃ m, k = m + 1 := ⟨k - 1, by omega⟩
    simp only [impl_Order_acyclic.l0]
    rw [if_neg (by omega)]
    rfl
  | succ d ih =>
    intro k i hi hk
    obtain ⟨k, rfl⟩ : ∃ m, k = m + 1 := ⟨k - 1, by omega⟩
    simp only [impl_Order_acyclic.l0]
    have h2 : 2 ^ n ≤ 2 ^ 10 := Nat.pow_le_pow_right (by omega) hn
    have b1 := bitsum_lt (W ms n i) n
    have r1 : rd (wmix n ms n 0) (i : Int) = ((bitsum (W ms n i) n : Nat) : Int) := by
      rw [wmix_rd n ms n 0 i (by omega), if_neg (by omega)]
    rw [if_pos (by omega), better_k (n : Int) _ i i _ (by rw [wmix_length]; omega) r1 (by omega) (by omega), bitsum_bit, decide_eq_true (show i < n by omega), Bool.true_and, List.range'_succ, List.all_cons, wrap_ok (by omega) (by omega), show ((i : Int) + 1) = ((i + 1 : Nat) : Int) by omega, ih k (i + 1) (by omega) (by omega)]
    simp only [Option.bind_some]
    cases W ms n i i
    · rw [if_neg (by simp)]
      simp
    · rw [if_pos rfl]
      simp
theorem acyclic_k (n : Nat) (hn : n ≤ 10) (ms : List Nat) (hl : ms.length = n) (hb : ∀ x ∈ ms, x < 2 ^ n) (k : Nat) (hk : 120 < k) :
    impl_Order_acyclic.f k (n : Int) (ms.map (fun (x : Nat) => (x : Int))) = some (noCycle n ms) := by
  unfold impl_Order_acyclic.f
  rw [closed_k n hn ms hl hb k hk]
  simp only [Option.bind_some]
  exact acyclic_l0 n hn ms n k 0 (by omega) (by omega)
theorem noCycle_iff (n : Nat) (ms : List Nat) : noCycle n ms = true ↔ ∀ i, i < n → W ms n i i = false := by
  unfold noCycle
  rw [List.all_eq_true]
  constructor
  · intro h i hi
    simpa using h i (by rw [List.mem_range']; exact ⟨i, hi, by omega⟩)
  · intro h x hx
    rw [List.mem_range'] at hx
    obtain ⟨i, hi, e⟩ := hx
    have : x = i := by omega
    rw [this, h i hi]
    rfl
theorem filter_lt {p q : Nat → Bool} (l : List Nat) (h : ∀ x ∈ l, p x = true → q x = true) (a : Nat) (ha : a ∈ l) (h1 : q a = true) (h2 : p a = false) : (l.filter p).length < (l.filter q).length := by
  have le : ∀ l : List Nat, (∀ x ∈ l, p x = true → q x = true) → (l.filter p).length ≤ (l.filter q).length := by
    intro l
    induction l with
    | nil => intro _; simp
    | cons b l ih =>
      intro h
      have := ih (fun x hx => h x (by simp [hx]))
      cases hp : p b
      · cases hq : q b
        · simpa [hp, hq] using this
        · simp only [List.filter_cons, hp, hq, if_true, Bool.false_eq_true, if_false, List.length_cons]
          omega
      · have hq := h b (by simp) hp
        simpa [hp, hq] using this
  induction l with
  | nil => cases ha
  | cons b l ih =>
    have hle := le l (fun x hx => h x (by simp [hx]))
    by_cases e : a = b
    · subst e
      simp only [List.filter_cons, h1, h2, if_true, Bool.false_eq_true, if_false, List.length_cons]
      omega
    · have hm : a ∈ l := by
        rcases List.mem_cons.1 ha with h | h
        · exact absurd h e
        · exact h
      have := ih (fun x hx => h x (by simp [hx])) hm
      cases hp : p b
      · cases hq : q b
        · simpa [hp, hq] using this
        · simp only [List.filter_cons, hp, hq, if_true, Bool.false_eq_true, if_false, List.length_cons]
          omega
      · have hq := h b (by simp) hp
        simpa [hp, hq] using this
/-- No cycle: each set that is not empty has an element than which none of it is better. -/
theorem acyclic_iff (n : Nat) (ms : List Nat) (hl : ms.length = n) (hb : ∀ x ∈ ms, x < 2 ^ n) : (∀ i, i < n → W ms n i i = false) ↔ ∀ S, 1 ≤ S → S < 2 ^ n → ∃ i, S.testBit i = true ∧ ms.getD i 0 &&& S = 0 := by
  constructor
  · intro h S h1 h2
    have key : ∀ m i, ((List.range n).filter (W ms n i)).length ≤ m → S.testBit i = true → ∃ i, S.testBit i = true ∧ ms.getD i 0 &&& S = 0 := by
      intro m
      induction m with
      | zero =>
        intro i hm hi
        refine ⟨i, hi, ?_⟩
        apply Classical.byContradiction
        intro hne
        obtain ⟨j, hj⟩ := bit_of_ne hne
        rw [Nat.testBit_and, Bool.and_eq_true] at hj
        have hw : W ms n i j = true := W_rel (by simpa [W] using hj.1) n
        have hjn := (W_lt hl hb n i j hw).2
        have : j ∈ (List.range n).filter (W ms n i) := by rw [List.mem_filter]; exact ⟨by simpa using hjn, hw⟩
        rw [List.eq_nil_of_length_eq_zero (Nat.le_zero.1 hm)] at this
        cases this
      | succ m ih =>
        intro i hm hi
        by_cases h0 : ms.getD i 0 &&& S = 0
        · exact ⟨i, hi, h0⟩
        · obtain ⟨j, hj⟩ := bit_of_ne h0
          rw [Nat.testBit_and, Bool.and_eq_true] at hj
          have hw : W ms n i j = true := W_rel (by simpa [W] using hj.1) n
          have hjn := (W_lt hl hb n i j hw).2
          refine ih j ?_ hj.2
          have := filter_lt (p := W ms n j) (q := W ms n i) (List.range n) (fun x _ hx => W_trans hl hb hw hx) j (by simpa using hjn) hw (h j hjn)
          omega
    obtain ⟨i, hi⟩ := bit_of_ne (show S ≠ 0 by omega)
    exact key _ i (Nat.le_refl _) hi
  · intro h i hi
    cases hw : W ms n i i
    · rfl
    · exfalso
      have hS : ∀ j, (bitsum (fun j => W ms n i j && W ms n j i) n).testBit j = true ↔ j < n ∧ W ms n i j = true ∧ W ms n j i = true := by
        intro j
        rw [bitsum_bit]
        simp
      have hne : bitsum (fun j => W ms n i j && W ms n j i) n ≠ 0 := by
        intro e
        have := (hS i).2 ⟨hi, hw, hw⟩
        rw [e] at this
        simp at this
      obtain ⟨j, hj, h0⟩ := h _ (Nat.one_le_iff_ne_zero.2 hne) (bitsum_lt _ n)
      obtain ⟨hjn, h1, h2⟩ := (hS j).1 hj
      have bad : ∀ q, W ms 0 j q = true → (bitsum (fun j => W ms n i j && W ms n j i) n).testBit q = true → False := by
        intro q hq hs
        have hq' : (ms.getD j 0).testBit q = true := hq
        have : (ms.getD j 0 &&& bitsum (fun j => W ms n i j && W ms n j i) n).testBit q = true := by rw [Nat.testBit_and, hq', hs]; rfl
        rw [h0] at this
        simp at this
      rcases W_first hl hb h2 with g | ⟨q, g1, g2⟩
      · exact bad i g ((hS i).2 ⟨hi, hw, hw⟩)
      · exact bad q g1 ((hS q).2 ⟨(W_lt hl hb 0 j q g1).2, W_trans hl hb h1 (W_rel g1 n), g2⟩)

theorem elems_mem (x m i : Nat) : (∃ q, q < (elemsTo x m).length ∧ (elemsTo x m).getD q 0 = i) ↔ i < m ∧ x.testBit i = true := by
  have h : i ∈ elemsTo x m ↔ i < m ∧ x.testBit i = true := by
    unfold elemsTo
    rw [List.mem_filter, List.mem_range]
  rw [← h]
  constructor
  · rintro ⟨q, hq, rfl⟩
    rw [List.getD_eq_getElem?_getD, List.getElem?_eq_getElem hq]
    exact List.getElem_mem hq
  · intro hi
    obtain ⟨q, hq, e⟩ := List.getElem_of_mem hi
    refine ⟨q, hq, ?_⟩
    rw [List.getD_eq_getElem?_getD, List.getElem?_eq_getElem hq]
    exact e
theorem elems_lt2 (x m j : Nat) (hj : j < (elemsTo x m).length) : (elemsTo x m).getD j 0 < m := ((elems_mem x m _).1 ⟨j, hj, rfl⟩).1

/-- The elements of a list, before j, than which none of a set is better, as a set. -/
def chTo (ms : List Nat) (S : Nat) (L : List Nat) : Nat → Nat
  | 0 => 0
  | j + 1 => if ms.getD (L.getD j 0) 0 &&& S = 0 then chTo ms S L j ||| 2 ^ L.getD j 0 else chTo ms S L j
theorem chTo_lt (n : Nat) (ms : List Nat) (S : Nat) (L : List Nat) (hL : ∀ j, j < L.length → L.getD j 0 < n) : ∀ j, j ≤ L.length → chTo ms S L j < 2 ^ n := by
  intro j
  induction j with
  | zero => intro _; exact Nat.two_pow_pos _
  | succ j ih =>
    intro hj
    rw [chTo]
    split
    · exact Nat.or_lt_two_pow (ih (by omega)) (Nat.pow_lt_pow_right (by omega) (hL j (by omega)))
    · exact ih (by omega)
theorem chTo_bit (ms : List Nat) (S : Nat) (L : List Nat) (j i : Nat) : (chTo ms S L j).testBit i = true ↔ ∃ q, q < j ∧ L.getD q 0 = i ∧ ms.getD i 0 &&& S = 0 := by
  induction j with
  | zero => simp [chTo]
  | succ j ih =>
    rw [chTo]
    by_cases h : ms.getD (L.getD j 0) 0 &&& S = 0
    · rw [if_pos h, Nat.testBit_or, Bool.or_eq_true, ih, Nat.testBit_two_pow, decide_eq_true_eq]
      constructor
      · rintro (⟨q, h1, h2⟩ | e)
        · exact ⟨q, by omega, h2⟩
        · exact ⟨j, by omega, e, e ▸ h⟩
      · rintro ⟨q, h1, h2, h3⟩
        by_cases e : q = j
        · subst e
          exact Or.inr h2
        · exact Or.inl ⟨q, by omega, h2, h3⟩
    · rw [if_neg h, ih]
      constructor
      · rintro ⟨q, h1, h2⟩
        exact ⟨q, by omega, h2⟩
      · rintro ⟨q, h1, h2, h3⟩
        by_cases e : q = j
        · subst e
          rw [← h2] at h3
          exact absurd h3 h
        · exact ⟨q, by omega, h2, h3⟩
/-- What is chosen of a set. -/
def chosen (n : Nat) (ms : List Nat) (S : Nat) : Nat := bitsum (fun i => S.testBit i && decide (ms.getD i 0 &&& S = 0)) n
theorem chTo_all (n : Nat) (ms : List Nat) (S : Nat) : chTo ms S (elemsTo S n) (elemsTo S n).length = chosen n ms S := by
  apply Nat.eq_of_testBit_eq
  intro i
  rw [Bool.eq_iff_iff, chTo_bit]
  unfold chosen
  rw [bitsum_bit, Bool.and_eq_true, Bool.and_eq_true, decide_eq_true_eq, decide_eq_true_eq]
  constructor
  · rintro ⟨q, h1, h2, h3⟩
    obtain ⟨g1, g2⟩ := (elems_mem S n i).1 ⟨q, h1, h2⟩
    exact ⟨g1, g2, h3⟩
  · rintro ⟨g1, g2, h3⟩
    obtain ⟨q, h1, h2⟩ := (elems_mem S n i).2 ⟨g1, g2⟩
    exact ⟨q, h1, h2, h3⟩
theorem cfChoice_l0 (n : Nat) (hn : n ≤ 10) (ms : List Nat) (hl : ms.length = n) (hb : ∀ x ∈ ms, x < 2 ^ n) (S : Nat) (hS : S < 2 ^ n) (L : List Nat) (hL : ∀ j, j < L.length → L.getD j 0 < n) (hLl : L.length ≤ 10) (N : Int) : ∀ (d k j : Nat), j + d = L.length → d < k →
    spec_cfChoice.l0 k (S : Int) ((chTo ms S L j : Nat) : Int) (L.map (fun (x : Nat) => (x : Int))) (L.length : Int) (j : Int) N (ms.map (fun (x : Nat) => (x : Int))) = some ((chTo ms S L L.length : Nat) : Int) := by
  intro d
  induction d with
  | zero =>
    intro k j hj hk
    obtain ⟨k, rfl⟩ : ∃ m, k = m + 1 := ⟨k - 1, by omega⟩
    simp only [spec_cfChoice.l0]
    have e : j = L.length := by omega
    rw [if_neg (by omega), e]
  | succ d ih =>
    intro k j hj hk
    obtain ⟨k, rfl⟩ : ∃ m, k = m + 1 := ⟨k - 1, by omega⟩
    simp only [spec_cfChoice.l0]
    have lL : ((L.map (fun (x : Nat) => (x : Int))).length : Int) = (L.length : Int) := by simp
    have lm : ((ms.map (fun (x : Nat) => (x : Int))).length : Int) = (n : Int) := by simp [hl]
    have hLj := hL j (by omega)
    have h2 : 2 ^ n ≤ 2 ^ 10 := Nat.pow_le_pow_right (by omega) hn
    have a1 := getD_lt (Nat.two_pow_pos n) hb (L.getD j 0)
    have a2 := chTo_lt n ms S L hL j (by omega)
    have next := ih k (j + 1) (by omega) (by omega)
    rw [chTo] at next
    rw [if_pos (by omega), if_pos (by omega), if_pos (by omega), rd_map, if_pos (Int.natCast_nonneg _), lm, if_pos (Int.ofNat_lt.2 hLj), rd_map, and_nat _ _ (by omega) (by omega), or_shl _ _ (by omega) (by omega), wrap_ok (by omega) (by omega), show ((j : Int) + 1) = ((j + 1 : Nat) : Int) by omega]
    by_cases h : ms.getD (L.getD j 0) 0 &&& S = 0
    · rw [if_pos (by rw [h]; rfl)]
      rw [if_pos h] at next
      exact next
    · rw [if_neg (by intro e; exact h (Int.ofNat_eq_zero.1 e))]
      rw [if_neg h] at next
      exact next
theorem cfChoice_k (n : Nat) (hn : n ≤ 10) (ms : List Nat) (hl : ms.length = n) (hb : ∀ x ∈ ms, x < 2 ^ n) (S : Nat) (hS : S < 2 ^ n) (k : Nat) (hk : 20 < k) :
    spec_cfChoice.f k (n : Int) (ms.map (fun (x : Nat) => (x : Int))) (S : Int) = some ((chosen n ms S : Nat) : Int) := by
  unfold spec_cfChoice.f
  have hle := elemsTo_length S n
  rw [orList_k S n hS (by omega) k (by omega)]
  simp only [Option.bind_some]
  have := cfChoice_l0 n hn ms hl hb S hS (elemsTo S n) (fun j hj => elems_lt2 S n j hj) (by omega) (n : Int) (elemsTo S n).length k 0 (by omega) (by omega)
  rw [chTo_all] at this
  have lL : (((elemsTo S n).map (fun (x : Nat) => (x : Int))).length : Int) = ((elemsTo S n).length : Int) := by simp
  rw [lL]
  exact this
theorem chosen_zero (n : Nat) (ms : List Nat) (S : Nat) (hS : S < 2 ^ n) : chosen n ms S ≠ 0 ↔ ∃ i, S.testBit i = true ∧ ms.getD i 0 &&& S = 0 := by
  unfold chosen
  constructor
  · intro h
    obtain ⟨i, hi⟩ := bit_of_ne h
    rw [bitsum_bit] at hi
    simp at hi
    exact ⟨i, hi.2.1, by simpa using hi.2.2⟩
  · rintro ⟨i, h1, h2⟩ e
    have hi : i < n := Nat.lt_of_not_le fun hle => by
      rw [Nat.testBit_lt_two_pow (Nat.lt_of_lt_of_le hS (Nat.pow_le_pow_right (by omega) hle))] at h1
      cases h1
    have : (bitsum (fun i => S.testBit i && decide (ms.getD i 0 &&& S = 0)) n).testBit i = true := by
      rw [bitsum_bit, h1, h2]
      simp [hi]
    rw [e] at this
    simp at this

theorem members_all : ∀ x, x < 1024 → impl_members.f 12 ((x : Nat) : Int) = some ((elemsTo x 10).map (fun (y : Nat) => (y : Int))) := by decide +kernel
theorem members_k (x m : Nat) (hx : x < 2 ^ m) (hm : m ≤ 10) (k : Nat) (hk : 12 ≤ k) : impl_members.f k (x : Int) = some ((elemsTo x m).map (fun (y : Nat) => (y : Int))) := by
  have h0 := members_all x (Nat.lt_of_lt_of_le hx (Nat.pow_le_pow_right (n := 2) (by omega) hm))
  have e := elemsTo_more x m (10 - m) hx
  rw [show m + (10 - m) = 10 by omega] at e
  rw [e] at h0
  obtain ⟨d, rfl⟩ : ∃ d, k = 12 + d := ⟨k - 12, by omega⟩
  clear hk
  induction d with
  | zero => exact h0
  | succ d ih => exact impl_members.mono _ _ _ ih

theorem choice_l0 (n : Nat) (hn : n ≤ 10) (ms : List Nat) (hl : ms.length = n) (hb : ∀ x ∈ ms, x < 2 ^ n) (S : Nat) (hS : S < 2 ^ n) (L : List Nat) (hL : ∀ j, j < L.length → L.getD j 0 < n) (hLl : L.length ≤ 10) (N : Int) : ∀ (d k j : Nat), j + d = L.length → d < k →
    impl_Order_choice.l0 k (S : Int) ((chTo ms S L j : Nat) : Int) (L.map (fun (x : Nat) => (x : Int))) (L.length : Int) (j : Int) N (ms.map (fun (x : Nat) => (x : Int))) = some ((chTo ms S L L.length : Nat) : Int) := by
  intro d
  induction d with
  | zero =>
    intro k j hj hk
    obtain ⟨k, rfl⟩ : ∃ m, k = m + 1 := ⟨k - 1, by omega⟩
    simp only [impl_Order_choice.l0]
    have e : j = L.length := by omega
    rw [if_neg (by omega), e]
  | succ d ih =>
    intro k j hj hk
    obtain ⟨k, rfl⟩ : ∃ m, k = m + 1 := ⟨k - 1, by omega⟩
    simp only [impl_Order_choice.l0]
    have lL : ((L.map (fun (x : Nat) => (x : Int))).length : Int) = (L.length : Int) := by simp
    have lm : ((ms.map (fun (x : Nat) => (x : Int))).length : Int) = (n : Int) := by simp [hl]
    have hLj := hL j (by omega)
    have h2 : 2 ^ n ≤ 2 ^ 10 := Nat.pow_le_pow_right (by omega) hn
    have a1 := getD_lt (Nat.two_pow_pos n) hb (L.getD j 0)
    have a2 := chTo_lt n ms S L hL j (by omega)
    have next := ih k (j + 1) (by omega) (by omega)
    rw [chTo] at next
    rw [if_pos (by omega), if_pos (by omega), if_pos (by omega), rd_map, if_pos (Int.natCast_nonneg _), lm, if_pos (Int.ofNat_lt.2 hLj), rd_map, and_nat _ _ (by omega) (by omega), or_shl _ _ (by omega) (by omega), wrap_ok (by omega) (by omega), show ((j : Int) + 1) = ((j + 1 : Nat) : Int) by omega]
    by_cases h : ms.getD (L.getD j 0) 0 &&& S = 0
    · rw [if_pos (by rw [h]; rfl)]
      rw [if_pos h] at next
      exact next
    · rw [if_neg (by intro e; exact h (Int.ofNat_eq_zero.1 e))]
      rw [if_neg h] at next
      exact next
theorem choice_k (n : Nat) (hn : n ≤ 10) (ms : List Nat) (hl : ms.length = n) (hb : ∀ x ∈ ms, x < 2 ^ n) (S : Nat) (hS : S < 2 ^ n) (k : Nat) (hk : 20 < k) :
    impl_Order_choice.f k (n : Int) (ms.map (fun (x : Nat) => (x : Int))) (S : Int) = some ((chosen n ms S : Nat) : Int) := by
  unfold impl_Order_choice.f
  have hle := elemsTo_length S n
  rw [members_k S n hS (by omega) k (by omega)]
  simp only [Option.bind_some]
  have := choice_l0 n hn ms hl hb S hS (elemsTo S n) (fun j hj => elems_lt2 S n j hj) (by omega) (n : Int) (elemsTo S n).length k 0 (by omega) (by omega)
  rw [chTo_all] at this
  have lL : (((elemsTo S n).map (fun (x : Nat) => (x : Int))).length : Int) = ((elemsTo S n).length : Int) := by simp
  rw [lL]
  exact this

/-- What is chosen of the sets before t. -/
def tableOf (n : Nat) (ms : List Nat) (t : Nat) : List Int := (List.range t).map fun S => ((chosen n ms S : Nat) : Int)
theorem tableOf_length (n : Nat) (ms : List Nat) (t : Nat) : (tableOf n ms t).length = t := by simp [tableOf]
theorem tableOf_succ (n : Nat) (ms : List Nat) (t : Nat) : tableOf n ms (t + 1) = tableOf n ms t ++ [((chosen n ms t : Nat) : Int)] := by
  unfold tableOf
  rw [List.range_succ, List.map_append]
  rfl
theorem choices_l0 (n : Nat) (hn : n ≤ 10) (ms : List Nat) (hl : ms.length = n) (hb : ∀ x ∈ ms, x < 2 ^ n) : ∀ (d k S : Nat), S + d = 2 ^ n → d + 30 < k →
    impl_Order_choices.l0 k (tableOf n ms S) ((2 ^ n : Nat) : Int) (S : Int) (n : Int) (ms.map (fun (x : Nat) => (x : Int))) = some (tableOf n ms (2 ^ n)) := by
  intro d
  have h2 : 2 ^ n ≤ 2 ^ 10 := Nat.pow_le_pow_right (by omega) hn
  induction d with
  | zero =>
    intro k S hS hk
    obtain ⟨k, rfl⟩ : ∃ m, k = m + 1 := ⟨k - 1, by omega⟩
    simp only [impl_Order_choices.l0]
    have e : S = 2 ^ n := by omega
    rw [if_neg (by omega), e]
  | succ d ih =>
    intro k S hS hk
    obtain ⟨k, rfl⟩ : ∃ m, k = m + 1 := ⟨k - 1, by omega⟩
    simp only [impl_Order_choices.l0]
    rw [if_pos (by omega), choice_k n hn ms hl hb S (by omega) k (by omega), wrap_ok (by omega) (by omega), show ((S : Int) + 1) = ((S + 1 : Nat) : Int) by omega]
    simp only [Option.bind_some]
    rw [if_pos (by rw [tableOf_length]; omega), ← tableOf_succ]
    exact ih k (S + 1) (by omega) (by omega)
theorem choices_k (n : Nat) (hn : n ≤ 10) (ms : List Nat) (hl : ms.length = n) (hb : ∀ x ∈ ms, x < 2 ^ n) (k : Nat) (hk : 1100 < k) :
    impl_Order_choices.f k (n : Int) (ms.map (fun (x : Nat) => (x : Int))) = some (tableOf n ms (2 ^ n)) := by
  unfold impl_Order_choices.f
  have h2 : 2 ^ n ≤ 2 ^ 10 := Nat.pow_le_pow_right (by omega) hn
  rw [if_pos (by omega), shl_one n (by omega)]
  exact choices_l0 n hn ms hl hb (2 ^ n) k 0 (by omega) (by omega)
theorem cfTable_l0 (n : Nat) (hn : n ≤ 10) (ms : List Nat) (hl : ms.length = n) (hb : ∀ x ∈ ms, x < 2 ^ n) : ∀ (d k S : Nat), S + d = 2 ^ n → d + 30 < k →
    spec_cfTable.l0 k (tableOf n ms S) (S : Int) (n : Int) (ms.map (fun (x : Nat) => (x : Int))) = some (tableOf n ms (2 ^ n)) := by
  intro d
  have h2 : 2 ^ n ≤ 2 ^ 10 := Nat.pow_le_pow_right (by omega) hn
  induction d with
  | zero =>
    intro k S hS hk
    obtain ⟨k, rfl⟩ : ∃ m, k = m + 1 := ⟨k - 1, by omega⟩
    simp only [spec_cfTable.l0]
    have e : S = 2 ^ n := by omega
    rw [if_pos (by omega), shl_one n (by omega), if_neg (by omega), e]
  | succ d ih =>
    intro k S hS hk
    obtain ⟨k, rfl⟩ : ∃ m, k = m + 1 := ⟨k - 1, by omega⟩
    simp only [spec_cfTable.l0]
    rw [if_pos (by omega), shl_one n (by omega), if_pos (by omega), cfChoice_k n hn ms hl hb S (by omega) k (by omega), wrap_ok (by omega) (by omega), show ((S : Int) + 1) = ((S + 1 : Nat) : Int) by omega]
    simp only [Option.bind_some]
    rw [if_pos (by rw [tableOf_length]; omega), ← tableOf_succ]
    exact ih k (S + 1) (by omega) (by omega)
theorem cfTable_k (n : Nat) (hn : n ≤ 10) (ms : List Nat) (hl : ms.length = n) (hb : ∀ x ∈ ms, x < 2 ^ n) (k : Nat) (hk : 1100 < k) :
    spec_cfTable.f k (n : Int) (ms.map (fun (x : Nat) => (x : Int))) = some (tableOf n ms (2 ^ n)) := by
  unfold spec_cfTable.f
  have h2 : 2 ^ n ≤ 2 ^ 10 := Nat.pow_le_pow_right (by omega) hn
  exact cfTable_l0 n hn ms hl hb (2 ^ n) k 0 (by omega) (by omega)

theorem getD_drop2 (l : List Int) (i : Nat) (h : i < l.length) : l.drop i = l.getD i 0 :: l.drop (i + 1) := by
  rw [List.drop_eq_getElem_cons h]
  simp [h]
theorem same_l0 (xs ys : List Int) (he : xs.length = ys.length) (hl : xs.length ≤ 4611686018427387904) : ∀ (d k i : Nat), i + d = xs.length → d < k →
    slices_Equal_int_int.l0 k xs ys (xs.length : Int) (i : Int) = some (decide (xs.drop i = ys.drop i)) ∧ spec_l1Same.l0 k xs ys (xs.length : Int) (i : Int) = some (decide (xs.drop i = ys.drop i)) := by
  intro d
  induction d with
  | zero =>
    intro k i hi hk
    obtain ⟨k, rfl⟩ : ∃ m, k = m + 1 := ⟨k - 1, by omega⟩
    simp only [slices_Equal_int_int.l0, spec_l1Same.l0]
    rw [if_neg (by omega), if_neg (by omega), List.drop_eq_nil_of_le (by omega), List.drop_eq_nil_of_le (by omega)]
    simp
  | succ d ih =>
    intro k i hi hk
    obtain ⟨k, rfl⟩ : ∃ m, k = m + 1 := ⟨k - 1, by omega⟩
    obtain ⟨h1, h2⟩ := ih k (i + 1) (by omega) (by omega)
    simp only [slices_Equal_int_int.l0, spec_l1Same.l0]
    have c1 : (i : Int) < (xs.length : Int) := by omega
    have c2 : 0 ≤ (i : Int) := by omega
    have c3 : (i : Int) < (ys.length : Int) := by omega
    simp only [c1, c2, c3, if_true]
    rw [wrap_ok (by omega) (by omega), show ((i : Int) + 1) = ((i + 1 : Nat) : Int) by omega, h1, h2, getD_drop2 xs i (by omega), getD_drop2 ys i (by omega), rd_nat, rd_nat]
    by_cases h : xs.getD i 0 = ys.getD i 0
    · simp only [h, if_true]
      simp
    · have h3 : ¬ (xs.getD i 0 :: xs.drop (i + 1) = ys.getD i 0 :: ys.drop (i + 1)) := fun e => h (List.cons.inj e).1
      simp only [h, if_false, decide_eq_false h3, and_self]
theorem same_k (xs ys : List Int) (hl : xs.length ≤ 4611686018427387904) (k : Nat) (hk : xs.length < k) : slices_Equal_int_int.f k xs ys = some (decide (xs = ys)) ∧ spec_l1Same.f k xs ys = some (decide (xs = ys)) := by
  unfold slices_Equal_int_int.f spec_l1Same.f
  by_cases he : xs.length = ys.length
  · rw [if_pos (by omega), if_pos (by omega)]
    exact same_l0 xs ys he hl xs.length k 0 (by omega) hk
  · rw [if_neg (by omega), if_neg (by omega)]
    have h3 : ¬ xs = ys := fun e => he (by rw [e])
    rw [decide_eq_false h3]
    exact ⟨rfl, rfl⟩

theorem relList_map (n : Nat) (p : Nat → Nat → Bool) : relList n n p = ((List.range n).map fun i => bitsum (p i) n).map (fun (x : Nat) => (x : Int)) := by
  unfold relList
  rw [List.map_map]
  rfl
/-- A table that is what its relation chooses is of a relation without cycles: of each set that is not empty something is chosen. -/
theorem rational_acyclic (n : Nat) (hn : n ≤ 4) (ms : List Nat) (hl : ms.length = n) (hb : ∀ x ∈ ms, x < 2 ^ n) (l : List Int) (hg : ∀ j, j < l.length → l.getD j 0 = 0 → j = 0) (h : tableOf n ms (2 ^ n) = l) : noCycle n ms = true := by
  rw [noCycle_iff, acyclic_iff n ms hl hb]
  intro S h1 h2
  apply (chosen_zero n ms S h2).1
  intro e
  have hlen : l.length = 2 ^ n := by rw [← h, tableOf_length]
  have := hg S (by omega) (by
    rw [← h]
    simp [tableOf, h2, e])
  omega
theorem FnExactIsRational : laws_FnExactIsRational.Pure := by
  intro n l _ _ _ hw0
  have hw : ∀ x ∈ l, x < 9223372036854775808 := fun x hx => (wf_bounds (hw0 x hx)).2
  by_cases h : l.length ≤ 1048576
  · refine ⟨l.length + 1700, ?_⟩
    have H : ∃ y z, (∀ k, l.length + 1500 < k → impl_IsRational.f k n l = some (y, z)) ∧ (∀ k, l.length + 1500 < k → spec_IsRational.f k n l = some (y, z)) := by
      by_cases hc : IsChoice n l
      · obtain ⟨m, hm, rfl, hlen⟩ := hc.len
        have hp : 2 ^ m ≤ 2 ^ 4 := Nat.pow_le_pow_right (by omega) hm
        have h2 : ((List.range m).map fun i => bitsum (revP l i) m).length = m := by simp
        have h3 : ∀ x ∈ ((List.range m).map fun i => bitsum (revP l i) m), x < 2 ^ m := by
          intro x hx
          obtain ⟨i, _, rfl⟩ := List.mem_map.1 hx
          exact bitsum_lt _ _
        have hmm : m * (m + 3) ≤ 4 * 7 := Nat.mul_le_mul hm (by omega)
        refine ⟨decide (tableOf m ((List.range m).map fun i => bitsum (revP l i) m) (2 ^ m) = l), true, fun k hk => ?_, fun k hk => ?_⟩
        all_goals
          obtain ⟨b, hb1, hb2, hb3⟩ := isChoice_k (m : Int) l h hw k (by omega)
          obtain rfl : b = true := hb3.2 hc
        · unfold impl_IsRational.f
          simp only [hb1, Option.bind_some, if_true, revealed_k l m hm hlen k (by omega), relList_map]
          rw [acyclic_k m (by omega) _ h2 h3 k (by omega)]
          simp only [Option.bind_some]
          cases hcy : noCycle m ((List.range m).map fun i => bitsum (revP l i) m)
          · have hne : ¬ tableOf m ((List.range m).map fun i => bitsum (revP l i) m) (2 ^ m) = l := by
              intro e
              have := rational_acyclic m hm _ h2 h3 l (fun j hj h0 => by
                have := (hc.2.2 j hj).2.2 h0
                exact this) e
              rw [hcy] at this
              cases this
            rw [decide_eq_false hne]
            rfl
          · rw [if_pos rfl, choices_k m (by omega) _ h2 h3 k (by omega)]
            simp only [Option.bind_some]
            rw [(same_k _ l (by rw [tableOf_length]; omega) k (by rw [tableOf_length]; omega)).1]
            rfl
        · unfold spec_IsRational.f
          simp only [hb2, Option.bind_some, if_true, cfRevealed_k l m hm hlen k (by omega), relList_map]
          rw [cfTable_k m (by omega) _ h2 h3 k (by omega)]
          simp only [Option.bind_some]
          rw [(same_k _ l (by rw [tableOf_length]; omega) k (by rw [tableOf_length]; omega)).2]
          rfl
      · refine ⟨false, false, fun k hk => ?_, fun k hk => ?_⟩
        all_goals
          obtain ⟨b, hb1, hb2, hb3⟩ := isChoice_k n l h hw k (by omega)
          obtain rfl : b = false := by
            cases b
            · rfl
            · exact absurd (hb3.1 rfl) hc
        · unfold impl_IsRational.f
          simp only [hb1, Option.bind_some, if_neg Bool.false_ne_true]
        · unfold spec_IsRational.f
          simp only [hb2, Option.bind_some, if_neg Bool.false_ne_true]
    obtain ⟨y, z, hI, hS⟩ := H
    unfold laws_FnExactIsRational.f
    rw [if_neg (by omega)]
    repeat (first
      | (rw [toIntS_k l h _ (by omega)]; simp only [Option.bind_some])
      | (rw [hS _ (by omega)]; simp only [Option.bind_some])
      | (rw [hI _ (by omega)]; simp only [Option.bind_some])
      | (rw [eqIntS_k _ (by omega) _ (by omega)]; simp only [Option.bind_some])
      | (rw [laws_FnExactIsRational.j0]; simp only [Bool.false_eq_true, if_false, if_true])
      | (simp only [if_true, Bool.false_eq_true, if_false, bne_self_eq_false]))
  · refine ⟨1, ?_⟩
    unfold laws_FnExactIsRational.f
    rw [if_pos (by omega)]

end Go.Proofs.YtcjofpajmhddkaaDoor.Pure
