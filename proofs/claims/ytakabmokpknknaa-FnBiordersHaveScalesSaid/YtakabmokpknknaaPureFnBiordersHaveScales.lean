/- Biorders have scales: for every two texts the law is true; no condition. -/
import Derived.Test.YtakabmokpknknaaPFnBiordersHaveScalesx11
import Derived.Lib.SlicesCompact
namespace Go.Proofs.Ytakabmokpknknaa.Pure
open Go.RowKit Go.Proofs.Ytakabmokpknknaa.PFnBiordersHaveScales Go.Proofs.YtakabmokpknknaaW.PrintWords Go.Proofs.YtakabmokpknknaaW.PrintLast Go.Proofs.YtakabmokpknknaaW.PrintMore
set_option linter.unusedVariables false
set_option linter.unusedSimpArgs false

theorem wrap_ok {x : Int} (h0 : -9223372036854775808 ≤ x) (h1 : x < 9223372036854775808) : wrap64 x = x := by unfold wrap64; omega
theorem wf_bounds {x : Int} (h : (Lit.int .i64 x).wf = true) : -9223372036854775808 ≤ x ∧ x < 9223372036854775808 := by
  have e : IntKind.i64.min ≤ x ∧ x ≤ 9223372036854775807 := by simpa [Lit.wf] using h
  have m : IntKind.i64.min = -9223372036854775808 := by decide
  omega
theorem rd_nat (l : List Int) (i : Nat) : rd l (i : Int) = l.getD i 0 := by simp [rd]

theorem within_eq (a b c : Int) : impl_within.f a b c = some (decide (b ≤ a ∧ a ≤ c)) := by
  unfold impl_within.f
  by_cases h : a ≥ b <;> simp [h] <;> omega
theorem l1In_eq (a b c : Int) : spec_l1In.f a b c = some (decide (b ≤ a ∧ a ≤ c)) := by
  unfold spec_l1In.f
  by_cases h : a ≥ b <;> simp [h] <;> omega

def allIn (l : List Int) (a b : Int) : Bool := l.all fun x => decide (a ≤ x ∧ x ≤ b)
theorem getD_drop (l : List Int) (i : Nat) (h : i < l.length) : l.drop i = l.getD i 0 :: l.drop (i + 1) := by
  rw [List.drop_eq_getElem_cons h]
  simp [h]
theorem allWithin_l0 (l : List Int) (a b : Int) (hl : l.length ≤ 4611686018427387904) : ∀ (d k i : Nat), i + d = l.length → d < k → impl_allWithin.l0 k a b l (l.length : Int) (i : Int) = some (allIn (l.drop i) a b) := by
  intro d
  induction d with
  | zero =>
    intro k i h hk
    obtain ⟨k, rfl⟩ : ∃ m, k = m + 1 := ⟨k - 1, by omega⟩
    simp only [impl_allWithin.l0]
    rw [if_neg (by omega), List.drop_eq_nil_of_le (by omega)]
    rfl
  | succ d ih =>
    intro k i h hk
    obtain ⟨k, rfl⟩ : ∃ m, k = m + 1 := ⟨k - 1, by omega⟩
    simp only [impl_allWithin.l0]
    rw [if_pos (by omega), if_pos (by omega), if_pos (by omega), wrap_ok (by omega) (by omega), within_eq, getD_drop l i (by omega), rd_nat]
    have e : ((i : Int) + 1) = ((i + 1 : Nat) : Int) := by omega
    rw [e, ih k (i + 1) (by omega) (by omega)]
    simp only [Option.bind_some, allIn, List.all_cons]
    cases decide (a ≤ l.getD i 0 ∧ l.getD i 0 ≤ b) <;> simp
theorem allWithin_k (l : List Int) (a b : Int) (hl : l.length ≤ 4611686018427387904) (k : Nat) (hk : l.length < k) : impl_allWithin.f k l a b = some (allIn l a b) := by
  unfold impl_allWithin.f
  exact allWithin_l0 l a b hl l.length k 0 (by omega) hk
theorem l1All_l0 (l : List Int) (a b : Int) (hl : l.length ≤ 4611686018427387904) : ∀ (d k i : Nat), i + d = l.length → d < k → spec_l1All.l0 k a b l (l.length : Int) (i : Int) = some (allIn (l.drop i) a b) := by
  intro d
  induction d with
  | zero =>
    intro k i h hk
    obtain ⟨k, rfl⟩ : ∃ m, k = m + 1 := ⟨k - 1, by omega⟩
    simp only [spec_l1All.l0]
    rw [if_neg (by omega), List.drop_eq_nil_of_le (by omega)]
    rfl
  | succ d ih =>
    intro k i h hk
    obtain ⟨k, rfl⟩ : ∃ m, k = m + 1 := ⟨k - 1, by omega⟩
    simp only [spec_l1All.l0]
    rw [if_pos (by omega), if_pos (by omega), if_pos (by omega), wrap_ok (by omega) (by omega), l1In_eq, getD_drop l i (by omega), rd_nat]
    have e : ((i : Int) + 1) = ((i + 1 : Nat) : Int) := by omega
    rw [e, ih k (i + 1) (by omega) (by omega)]
    simp only [Option.bind_some, allIn, List.all_cons]
    cases decide (a ≤ l.getD i 0 ∧ l.getD i 0 ≤ b) <;> simp
theorem l1All_k (l : List Int) (a b : Int) (hl : l.length ≤ 4611686018427387904) (k : Nat) (hk : l.length < k) : spec_l1All.f k l a b = some (allIn l a b) := by
  unfold spec_l1All.f
  exact l1All_l0 l a b hl l.length k 0 (by omega) hk

/-- A table, told as data. -/
def isTab (R C : Int) (M : List Int) : Bool := decide (1 ≤ R ∧ R ≤ 6) && decide (1 ≤ C ∧ C ≤ 6) && decide ((M.length : Int) = R) && allIn M 0 (wrap64 (shl .i64 1 C - 1))
theorem IsTable_k (R C : Int) (M : List Int) (hM : M.length ≤ 4611686018427387904) (k : Nat) (hk : M.length < k) : impl_IsTable.f k R C M = some (isTab R C M) := by
  unfold impl_IsTable.f isTab
  simp only [within_eq, Option.bind_some]
  by_cases h1 : 1 ≤ R ∧ R ≤ 6
  · by_cases h2 : 1 ≤ C ∧ C ≤ 6
    · by_cases h3 : (M.length : Int) = R
      · rw [if_pos h3, if_pos (show 0 ≤ C by omega), allWithin_k M _ _ hM k hk]
        simp [h1, h2, h3]
      · rw [if_neg h3]
        simp [h1, h2, h3]
    · simp [h1, h2]
  · simp [h1]
theorem feGood_k (R C : Int) (M : List Int) (hM : M.length ≤ 4611686018427387904) (k : Nat) (hk : M.length < k) : spec_feGood.f k R C M = some (isTab R C M) := by
  unfold spec_feGood.f isTab
  simp only [l1In_eq, Option.bind_some]
  by_cases h1 : 1 ≤ R ∧ R ≤ 6
  · by_cases h2 : 1 ≤ C ∧ C ≤ 6
    · by_cases h3 : (M.length : Int) = R
      · rw [if_pos h3, if_pos (show 0 ≤ C by omega), l1All_k M _ _ hM k hk]
        simp [h1, h2, h3]
      · rw [if_neg h3]
        simp [h1, h2, h3]
    · simp [h1, h2]
  · simp [h1]

/-! Sets as numbers. -/
def andn (a b : Nat) : Nat := a ^^^ (a &&& b)
theorem andn_bit (a b i : Nat) : (andn a b).testBit i = (a.testBit i && !b.testBit i) := by
  unfold andn
  rw [Nat.testBit_xor, Nat.testBit_and]
  cases a.testBit i <;> cases b.testBit i <;> rfl
theorem wrap_i64_nat (n : Nat) (h : n < 2 ^ 63) : IntKind.i64.wrap (n : Int) = (n : Int) := by
  rw [IntKind.wrap_i64]
  have : (n : Int) < 9223372036854775808 := by omega
  omega
theorem ofInt_toNat (n : Nat) (h : n < 2 ^ 63) : (BitVec.ofInt 64 (n : Int)).toNat = n := by
  rw [BitVec.ofInt_natCast, BitVec.toNat_ofNat, Nat.mod_eq_of_lt (by omega)]
theorem and_nat (a b : Nat) (ha : a < 2 ^ 63) (hb : b < 2 ^ 63) : Go.bits .and .i64 (a : Int) (b : Int) = ((a &&& b : Nat) : Int) := by
  unfold Go.bits
  show IntKind.i64.wrap ((BitVec.ofInt 64 (a : Int) &&& BitVec.ofInt 64 (b : Int)).toNat : Int) = _
  rw [BitVec.toNat_and, ofInt_toNat a ha, ofInt_toNat b hb]
  exact wrap_i64_nat _ (Nat.lt_of_le_of_lt Nat.and_le_left ha)
theorem or_nat (a b : Nat) (ha : a < 2 ^ 63) (hb : b < 2 ^ 63) : Go.bits .or .i64 (a : Int) (b : Int) = ((a ||| b : Nat) : Int) := by
  unfold Go.bits
  show IntKind.i64.wrap ((BitVec.ofInt 64 (a : Int) ||| BitVec.ofInt 64 (b : Int)).toNat : Int) = _
  rw [BitVec.toNat_or, ofInt_toNat a ha, ofInt_toNat b hb]
  exact wrap_i64_nat _ (Nat.or_lt_two_pow ha hb)
theorem xor_nat (a b : Nat) (ha : a < 2 ^ 63) (hb : b < 2 ^ 63) : Go.bits .xor .i64 (a : Int) (b : Int) = ((a ^^^ b : Nat) : Int) := by
  unfold Go.bits
  show IntKind.i64.wrap ((BitVec.ofInt 64 (a : Int) ^^^ BitVec.ofInt 64 (b : Int)).toNat : Int) = _
  rw [BitVec.toNat_xor, ofInt_toNat a ha, ofInt_toNat b hb]
  exact wrap_i64_nat _ (Nat.xor_lt_two_pow ha hb)
theorem andn_le (a b : Nat) : andn a b ≤ a := Nat.le_of_testBit fun i h => by
  rw [andn_bit] at h
  cases h1 : a.testBit i
  · simp [h1] at h
  · rfl
theorem andNot_nat (a b : Nat) (ha : a < 2 ^ 63) (hb : b < 2 ^ 63) : Go.bits .andNot .i64 (a : Int) (b : Int) = ((andn a b : Nat) : Int) := by
  unfold Go.bits
  show IntKind.i64.wrap ((BitVec.ofInt 64 (a : Int) &&& ~~~ BitVec.ofInt 64 (b : Int)).toNat : Int) = _
  have e : (BitVec.ofInt 64 (a : Int) &&& ~~~ BitVec.ofInt 64 (b : Int)).toNat = andn a b := by
    apply Nat.eq_of_testBit_eq
    intro i
    rw [andn_bit, BitVec.toNat_and, Nat.testBit_and, ofInt_toNat a ha, BitVec.testBit_toNat, BitVec.getLsbD_not, BitVec.ofInt_natCast, BitVec.getLsbD_ofNat]
    by_cases hi : i < 64
    · rw [decide_eq_true hi]
      simp only [Bool.true_and]
    · have : a.testBit i = false := Nat.testBit_lt_two_pow (Nat.lt_of_lt_of_le ha (Nat.pow_le_pow_right (by omega) (by omega)))
      simp [this]
  rw [e]
  exact wrap_i64_nat _ (Nat.lt_of_le_of_lt (andn_le a b) ha)
theorem andn_zero (a b : Nat) : andn a b = 0 ↔ ∀ i, a.testBit i = true → b.testBit i = true := by
  constructor
  · intro h i hi
    have := andn_bit a b i
    rw [h, hi] at this
    cases hb : b.testBit i
    · simp [hb] at this
    · rfl
  · intro h
    apply Nat.eq_of_testBit_eq
    intro i
    rw [andn_bit]
    cases ha : a.testBit i
    · simp
    · simp [h i ha]
theorem andn_zero_le {a b : Nat} (h : andn a b = 0) : a ≤ b := Nat.le_of_testBit fun i hi => (andn_zero a b).1 h i hi
theorem andNot_le {p i : Int} (h0 : 0 ≤ p) (h1 : 0 ≤ i) (hp : p < 9223372036854775808) (hi : i < 9223372036854775808) (h : Go.bits .andNot .i64 p i = 0) : p ≤ i := by
  obtain ⟨a, rfl⟩ := Int.eq_ofNat_of_zero_le h0
  obtain ⟨b, rfl⟩ := Int.eq_ofNat_of_zero_le h1
  rw [andNot_nat a b (by omega) (by omega)] at h
  have := andn_zero_le (a := a) (b := b) (by omega)
  omega

/-- The set of the j < n for which q tells true. -/
def bitsum (q : Nat → Bool) : Nat → Nat
  | 0 => 0
  | j + 1 => bitsum q j ||| (if q j then 2 ^ j else 0)
theorem bitsum_lt (q : Nat → Bool) (n : Nat) : bitsum q n < 2 ^ n := by
  induction n with
  | zero => simp [bitsum]
  | succ n ih =>
    rw [bitsum]
    apply Nat.or_lt_two_pow
    · exact Nat.lt_of_lt_of_le ih (Nat.pow_le_pow_right (by omega) (by omega))
    · split
      · exact Nat.pow_lt_pow_right (by omega) (by omega)
      · exact Nat.two_pow_pos _
theorem bitsum_bit (q : Nat → Bool) (n i : Nat) : (bitsum q n).testBit i = (decide (i < n) && q i) := by
  induction n with
  | zero => simp [bitsum]
  | succ n ih =>
    rw [bitsum, Nat.testBit_or, ih]
    by_cases e : i = n
    · subst e
      cases h : q i <;> simp [Nat.testBit_two_pow_self]
    · have : (if q n then 2 ^ n else 0).testBit i = false := by
        split
        · rw [Nat.testBit_two_pow_of_ne (by omega)]
        · simp
      rw [this]
      by_cases h : i < n
      · simp [h, show i < n + 1 by omega]
      · simp [h, show ¬ i < n + 1 by omega]
theorem bitsum_congr {q q' : Nat → Bool} (n : Nat) (h : ∀ i, i < n → q i = q' i) : bitsum q n = bitsum q' n := by
  induction n with
  | zero => rfl
  | succ n ih => rw [bitsum, bitsum, ih (fun i hi => h i (by omega)), h n (by omega)]
theorem shl_one (j : Nat) (h : j < 62) : shl .i64 1 (j : Int) = ((2 ^ j : Nat) : Int) := by
  unfold shl
  have e : min (j : Int).toNat IntKind.i64.bits = j := by
    show min (j : Int).toNat 64 = j
    omega
  rw [e]
  have e2 : (1 : Int) * 2 ^ j = ((2 ^ j : Nat) : Int) := by simp
  rw [e2]
  exact wrap_i64_nat _ (Nat.pow_lt_pow_right (by omega) (by omega))
theorem or_shl (a j : Nat) (ha : a < 2 ^ 62) (hj : j < 62) : Go.bits .or .i64 (a : Int) (shl .i64 1 (j : Int)) = ((a ||| 2 ^ j : Nat) : Int) := by
  rw [shl_one j hj]
  exact or_nat a _ (Nat.lt_of_lt_of_le ha (by decide)) (Nat.pow_lt_pow_right (by omega) (by omega))
/-- The rows' sets. -/
def relList (R C : Nat) (p : Nat → Nat → Bool) : List Int := (List.range R).map fun i => ((bitsum (p i) C : Nat) : Int)
theorem relList_length (R C : Nat) (p : Nat → Nat → Bool) : (relList R C p).length = R := by simp [relList]
theorem relList_congr {R C : Nat} {p p' : Nat → Nat → Bool} (h : ∀ i j, i < R → j < C → p i j = p' i j) : relList R C p = relList R C p' := by
  unfold relList
  apply List.map_congr_left
  intro i hi
  rw [bitsum_congr C (fun j hj => h i j (by simpa using hi) hj)]
/-- A list that is being filled: the first i rows are whole, the row i has the columns < j, the others are 0. -/
def part (R C : Nat) (p : Nat → Nat → Bool) (i j : Nat) : List Int := (List.range R).map fun r => if r < i then ((bitsum (p r) C : Nat) : Int) else if r = i then ((bitsum (p r) j : Nat) : Int) else 0
theorem part_length (R C : Nat) (p : Nat → Nat → Bool) (i j : Nat) : (part R C p i j).length = R := by simp [part]
theorem part_start (R C : Nat) (p : Nat → Nat → Bool) : List.replicate R 0 = part R C p 0 0 := by
  apply List.ext_getElem?
  intro r
  by_cases h : r < R
  · simp [part, h, List.getElem?_replicate, bitsum]
  · rw [List.getElem?_eq_none (by simp; omega), List.getElem?_eq_none (by rw [part_length]; omega)]
theorem part_next (R C : Nat) (p : Nat → Nat → Bool) (i : Nat) : part R C p i C = part R C p (i + 1) 0 := by
  apply List.ext_getElem?
  intro r
  by_cases h : r < R
  · simp only [part, List.getElem?_map, List.getElem?_range h, Option.map_some]
    by_cases h1 : r < i
    · simp [h1, show r < i + 1 by omega]
    · by_cases h2 : r = i
      · simp [h2]
      · simp [h1, h2, show ¬ r < i + 1 by omega, bitsum]
  · rw [List.getElem?_eq_none (by rw [part_length]; omega), List.getElem?_eq_none (by rw [part_length]; omega)]
theorem part_end (R C : Nat) (p : Nat → Nat → Bool) : part R C p R 0 = relList R C p := by
  unfold part relList
  apply List.map_congr_left
  intro r hr
  rw [if_pos (by simpa using hr)]
theorem part_rd (R C : Nat) (p : Nat → Nat → Bool) (i j : Nat) (hi : i < R) : rd (part R C p i j) (i : Int) = ((bitsum (p i) j : Nat) : Int) := by
  rw [rd_nat]
  simp [part, List.getD_eq_getElem?_getD, hi]
theorem part_set (R C : Nat) (p : Nat → Nat → Bool) (i j : Nat) (hi : i < R) (hp : p i j = true) : (part R C p i j).set i ((bitsum (p i) j ||| 2 ^ j : Nat) : Int) = part R C p i (j + 1) := by
  apply List.ext_getElem?
  intro r
  by_cases h : r < R
  · rw [List.getElem?_set]
    simp only [part, List.getElem?_map, List.getElem?_range h, Option.map_some, List.length_map, List.length_range]
    by_cases e : i = r
    · subst e
      simp [h, bitsum, hp]
    · rw [if_neg e]
      simp [show ¬ r = i from fun h => e h.symm]
  · rw [List.getElem?_eq_none (by simp [part_length]; omega), List.getElem?_eq_none (by rw [part_length]; omega)]
theorem part_skip (R C : Nat) (p : Nat → Nat → Bool) (i j : Nat) (hp : p i j = false) : part R C p i j = part R C p i (j + 1) := by
  unfold part
  apply List.map_congr_left
  intro r _
  by_cases h1 : r < i
  · simp [h1]
  · by_cases h2 : r = i
    · subst h2
      simp [bitsum, hp]
    · simp [h1, h2]

theorem table_l0 (R C : Nat) (hR : R ≤ 60) (hC : C ≤ 60) (is : Int → Int → Option Bool) (p : Nat → Nat → Bool) (h : ∀ i j : Nat, i < R → j < C → is i j = some (p i j)) :
    ∀ (d k i : Nat), i + d = R → d * (C + 3) < k → impl_table.l0 k (C : Int) is (R : Int) (i : Int) (R : Int) (C : Int) (part R C p i 0) = some ((R : Int), (C : Int), relList R C p) := by
  intro d
  induction d with
  | zero =>
    intro k i hi hk
    obtain ⟨k, rfl⟩ : ∃ m, k = m + 1 := ⟨k - 1, by omega⟩
    simp only [impl_table.l0]
    have e : i = R := by omega
    subst e
    rw [if_neg (by omega), part_end]
  | succ d ih =>
    intro k i hi hk
    rw [Nat.succ_mul] at hk
    obtain ⟨k, rfl⟩ : ∃ m, k = m + 1 := ⟨k - 1, by omega⟩
    simp only [impl_table.l0]
    rw [if_pos (by omega)]
    have inner : ∀ (e k j : Nat), j + e = C → d * (C + 3) + 1 + e < k → impl_table.l1 k (C : Int) is (i : Int) (R : Int) (i : Int) (C : Int) (j : Int) (R : Int) (C : Int) (part R C p i j) = some ((R : Int), (C : Int), relList R C p) := by
      intro e
      induction e with
      | zero =>
        intro k j hj hk
        obtain ⟨k, rfl⟩ : ∃ m, k = m + 1 := ⟨k - 1, by omega⟩
        simp only [impl_table.l1]
        have e1 : ((i : Int) + 1) = ((i + 1 : Nat) : Int) := by omega
        have e2 : j = C := by omega
        subst e2
        rw [if_neg (by omega), wrap_ok (by omega) (by omega), e1, part_next]
        exact ih k (i + 1) (by omega) (by omega)
      | succ e ihe =>
        intro k j hj hk
        obtain ⟨k, rfl⟩ : ∃ m, k = m + 1 := ⟨k - 1, by omega⟩
        simp only [impl_table.l1]
        have e1 : ((j : Int) + 1) = ((j + 1 : Nat) : Int) := by omega
        have e3 : (i : Int).toNat = i := by omega
        rw [if_pos (by omega), h i j (by omega) (by omega), wrap_ok (by omega) (by omega), e1, e3]
        simp only [Option.bind_some]
        cases hp : p i j
        · rw [if_neg (by simp), part_skip R C p i j hp]
          exact ihe k (j + 1) (by omega) (by omega)
        · rw [if_pos rfl, if_pos (by omega), if_pos (by rw [part_length]; omega), if_pos (by omega), part_rd R C p i j (by omega), or_shl _ j (Nat.lt_of_lt_of_le (bitsum_lt (p i) j) (Nat.pow_le_pow_right (by omega) (by omega))) (by omega), part_set R C p i j (by omega) hp]
          exact ihe k (j + 1) (by omega) (by omega)
    exact inner C k 0 (by omega) (by omega)
/-- The table of what is told of each cell. -/
theorem table_k (R C : Nat) (hR : R ≤ 60) (hC : C ≤ 60) (is : Int → Int → Option Bool) (p : Nat → Nat → Bool) (h : ∀ i j : Nat, i < R → j < C → is i j = some (p i j)) (k : Nat) (hk : R * (C + 3) < k) :
    impl_table.f k (R : Int) (C : Int) is = some ((R : Int), (C : Int), relList R C p) := by
  unfold impl_table.f
  rw [if_pos (by omega), if_pos (by omega)]
  have e : ((R : Int)).toNat = R := by omega
  rw [e, part_start R C p]
  exact table_l0 R C hR hC is p h R k 0 (by omega) hk

/-- The columns of a table's marks, as a number. -/
theorem allIn_iff (l : List Int) (a b : Int) : allIn l a b = true ↔ ∀ x ∈ l, a ≤ x ∧ x ≤ b := by
  unfold allIn
  rw [List.all_eq_true]
  simp
/-- What a table is: its rows, its columns, and each row's marks as a number. -/
theorem isTab_iff (R C : Int) (M : List Int) : isTab R C M = true ↔ ∃ (r c : Nat) (ms : List Nat), R = (r : Int) ∧ C = (c : Int) ∧ M = ms.map (fun (x : Nat) => (x : Int)) ∧ 1 ≤ r ∧ r ≤ 6 ∧ 1 ≤ c ∧ c ≤ 6 ∧ ms.length = r ∧ ∀ x ∈ ms, x < 2 ^ c := by
  unfold isTab
  simp only [Bool.and_eq_true, decide_eq_true_eq, allIn_iff]
  constructor
  · rintro ⟨⟨⟨h1, h2⟩, h3⟩, h4⟩
    have ec : C = ((C.toNat : Nat) : Int) := by omega
    have e5 : wrap64 (shl .i64 1 C - 1) = ((2 ^ C.toNat - 1 : Nat) : Int) := by
      rw [ec, shl_one C.toNat (by omega)]
      have hp : 0 < 2 ^ C.toNat := Nat.two_pow_pos _
      have hq : 2 ^ C.toNat ≤ 2 ^ 6 := Nat.pow_le_pow_right (by omega) (by omega)
      have e6 : (((C.toNat : Nat) : Int)).toNat = C.toNat := by omega
      rw [e6, wrap_ok (by omega) (by omega)]
      omega
    rw [e5] at h4
    refine ⟨R.toNat, C.toNat, M.map Int.toNat, by omega, ec, ?_, by omega, by omega, by omega, by omega, by simp; omega, ?_⟩
    · rw [List.map_map]
      conv => lhs; rw [← List.map_id M]
      apply List.map_congr_left
      intro x hx
      have := h4 x hx
      show x = ((x.toNat : Nat) : Int)
      omega
    · intro x hx
      obtain ⟨y, hy, rfl⟩ := List.mem_map.1 hx
      have := h4 y hy
      have hp : 0 < 2 ^ C.toNat := Nat.two_pow_pos _
      omega
  · rintro ⟨r, c, ms, rfl, rfl, rfl, h1, h2, h3, h4, h5, h6⟩
    have hp : 0 < 2 ^ c := Nat.two_pow_pos _
    have hq : 2 ^ c ≤ 2 ^ 6 := Nat.pow_le_pow_right (by omega) (by omega)
    have e5 : wrap64 (shl .i64 1 (c : Int) - 1) = ((2 ^ c - 1 : Nat) : Int) := by
      rw [shl_one c (by omega), wrap_ok (by omega) (by omega)]
      omega
    refine ⟨⟨⟨by omega, by omega⟩, by simp; omega⟩, ?_⟩
    intro x hx
    obtain ⟨y, hy, rfl⟩ := List.mem_map.1 hx
    have := h6 y hy
    rw [e5]
    omega
/-- Is a row marked in a column? -/
def mk (ms : List Nat) (r c : Nat) : Bool := (ms.getD r 0).testBit c
theorem rd_map (ms : List Nat) (i : Nat) : rd (ms.map (fun (x : Nat) => (x : Int))) (i : Int) = ((ms.getD i 0 : Nat) : Int) := by
  rw [rd_nat]
  simp only [List.getD_eq_getElem?_getD, List.getElem?_map]
  cases ms[i]? <;> simp
theorem getD_lt {ms : List Nat} {b : Nat} (hb : 0 < b) (h : ∀ x ∈ ms, x < b) (i : Nat) : ms.getD i 0 < b := by
  rw [List.getD_eq_getElem?_getD]
  cases hx : ms[i]? with
  | none => simpa using hb
  | some x => exact h x (List.mem_of_getElem? hx)
/-- The bit of a number, as Go asks it. -/
theorem shr_nat (x c : Nat) (hc : c < 64) : shr .i64 (x : Int) (c : Int) = ((x / 2 ^ c : Nat) : Int) := by
  unfold shr
  have e : min (c : Int).toNat IntKind.i64.bits = c := by
    show min (c : Int).toNat 64 = c
    omega
  rw [e]
  simp
theorem bit_and (x c : Nat) (hx : x < 2 ^ 63) (hc : c < 64) : (Go.bits .and .i64 (shr .i64 (x : Int) (c : Int)) 1 == 1) = x.testBit c := by
  rw [shr_nat x c hc]
  have h1 : x / 2 ^ c < 2 ^ 63 := Nat.lt_of_le_of_lt (Nat.div_le_self _ _) hx
  have e : Go.bits .and .i64 ((x / 2 ^ c : Nat) : Int) 1 = ((x / 2 ^ c &&& 1 : Nat) : Int) := and_nat _ 1 h1 (by decide)
  rw [e, Nat.and_one_is_mod]
  have e2 : x.testBit c = decide (x / 2 ^ c % 2 = 1) := Nat.testBit_eq_decide_div_mod_eq
  rw [e2]
  by_cases h : x / 2 ^ c % 2 = 1
  · simp [h]
  · have : x / 2 ^ c % 2 = 0 := by omega
    simp [this]
theorem marked_k (R C : Int) (ms : List Nat) (r c : Nat) (hb : ∀ x ∈ ms, x < 64) (hr : r < ms.length) (hc : c < 60) : impl_Table_marked.f R C (ms.map (fun (x : Nat) => (x : Int))) (r : Int) (c : Int) = some (mk ms r c) := by
  unfold impl_Table_marked.f mk
  have := getD_lt (b := 64) (by omega) hb r
  rw [if_pos (by omega), if_pos (by simpa using hr), if_pos (by omega), rd_map, bit_and _ c (by omega) (by omega)]

theorem wrap_small (n : Nat) (h : n < 1000) : wrap64 (n : Int) = (n : Int) := wrap_ok (by omega) (by omega)

theorem tmod_nat (n : Nat) : Int.tmod (n : Int) 2 = ((n % 2 : Nat) : Int) := by
  rw [Int.tmod_eq_emod_of_nonneg (by omega)]
  omega
theorem orHas_k (x i : Nat) (hi : i < 64) : spec_orHas.f (x : Int) (i : Int) = some (x.testBit i) := by
  unfold spec_orHas.f
  rw [if_pos (by omega), shr_nat x i hi, tmod_nat]
  have e2 : x.testBit i = decide (x / 2 ^ i % 2 = 1) := Nat.testBit_eq_decide_div_mod_eq
  rw [e2]
  congr 1
  by_cases h : x / 2 ^ i % 2 = 1
  · simp [h]
  · have : x / 2 ^ i % 2 = 0 := by omega
    simp [this]

/-- The elements of a set that are less than m. -/
def elemsTo (x m : Nat) : List Nat := (List.range m).filter x.testBit
theorem elemsTo_succ (x m : Nat) : elemsTo x (m + 1) = elemsTo x m ++ (if x.testBit m = true then [m] else []) := by
  unfold elemsTo
  rw [List.range_succ, List.filter_append]
  by_cases h : x.testBit m = true <;> simp [h]
theorem elemsTo_length (x m : Nat) : (elemsTo x m).length ≤ m := by
  have := List.length_filter_le x.testBit (List.range m)
  simpa [elemsTo] using this
theorem elemsTo_more (x i d : Nat) (h : x < 2 ^ i) : elemsTo x (i + d) = elemsTo x i := by
  induction d with
  | zero => rfl
  | succ d ih =>
    rw [show i + (d + 1) = (i + d) + 1 from rfl, elemsTo_succ, ih]
    have : x.testBit (i + d) = false := Nat.testBit_lt_two_pow (Nat.lt_of_lt_of_le h (Nat.pow_le_pow_right (by omega) (by omega)))
    simp [this]
theorem orList_l0 (x m : Nat) (hx : x < 2 ^ m) (hm : m ≤ 60) : ∀ (d k i : Nat), i + d = m → d < k → spec_orList.l0 k (x : Int) ((elemsTo x i).map (fun (y : Nat) => (y : Int))) (i : Int) = some ((elemsTo x m).map (fun (y : Nat) => (y : Int))) := by
  intro d
  induction d with
  | zero =>
    intro k i hi hk
    obtain ⟨k, rfl⟩ : ∃ q, k = q + 1 := ⟨k - 1, by omega⟩
    have e : i = m := by omega
    subst e
    have h0 : x / 2 ^ i = 0 := Nat.div_eq_of_lt hx
    simp only [spec_orList.l0]
    rw [if_pos (by omega), shr_nat x i (by omega), h0, if_neg (by omega)]
  | succ d ih =>
    intro k i hi hk
    obtain ⟨k, rfl⟩ : ∃ q, k = q + 1 := ⟨k - 1, by omega⟩
    simp only [spec_orList.l0]
    rw [if_pos (by omega), shr_nat x i (by omega)]
    by_cases h0 : x / 2 ^ i = 0
    · rw [h0, if_neg (by omega)]
      have hlt : x < 2 ^ i := by
        have := Nat.div_eq_zero_iff.1 h0
        have hp := Nat.two_pow_pos i
        omega
      have := elemsTo_more x i (d + 1) hlt
      rw [hi] at this
      rw [this]
    · have hl := elemsTo_length x i
      have next := ih k (i + 1) (by omega) (by omega)
      have hpos : ((x / 2 ^ i : Nat) : Int) > 0 := Int.natCast_pos.2 (Nat.pos_of_ne_zero h0)
      rw [if_pos hpos, orHas_k x i (by omega), wrap_ok (by omega) (by omega), show ((i : Int) + 1) = ((i + 1 : Nat) : Int) by omega]
      simp only [Option.bind_some]
      rw [elemsTo_succ] at next
      cases hb : x.testBit i
      · rw [if_neg (by simp)]
        simpa [hb] using next
      · rw [if_pos rfl, if_pos (by simp; omega)]
        simpa [hb] using next
theorem orList_k (x m : Nat) (hx : x < 2 ^ m) (hm : m ≤ 60) (k : Nat) (hk : m < k) : spec_orList.f k (x : Int) = some ((elemsTo x m).map (fun (y : Nat) => (y : Int))) := by
  unfold spec_orList.f
  exact orList_l0 x m hx hm m k 0 (by omega) hk

/-! A loop that looks for the first index for which something is told: what it tells with enough rounds. -/
/-- One round of such a loop: what is told ends it; else it goes on. -/
def Step {α : Type} (F : Nat → Nat → Option α) (G : Nat → Option α) (c i : Nat) : Prop :=
  (∀ v, G i = some v → ∀ k, c ≤ k → F (k + 1) i = some v) ∧ (G i = none → ∀ K r, (∀ k, K ≤ k → F k (i + 1) = some r) → ∀ k, K + c ≤ k → F (k + 1) i = some r)
theorem search {α : Type} (F : Nat → Nat → Option α) (n c : Nat) (G : Nat → Option α) (h : ∀ i, i < n → Step F G c i) :
    ∀ e i, i + e = n → (∀ v, (List.range' i e).findSome? G = some v → ∀ k, e * (c + 1) ≤ k → F k i = some v) ∧
      ((List.range' i e).findSome? G = none → ∀ K r, (∀ k, K ≤ k → F k n = some r) → ∀ k, K + e * (c + 1) ≤ k → F k i = some r) := by
  intro e
  induction e with
  | zero =>
    intro i hi
    have e0 : i = n := by omega
    subst e0
    exact ⟨fun v h => by simp at h, fun _ K r h k hk => h k (by omega)⟩
  | succ e ih =>
    intro i hi
    obtain ⟨ihA, ihB⟩ := ih (i + 1) (by omega)
    obtain ⟨hb, hs⟩ := h i (by omega)
    rw [List.range'_succ, List.findSome?_cons]
    refine ⟨fun v h k hk => ?_, fun h K r hr k hk => ?_⟩
    · rw [Nat.succ_mul] at hk
      obtain ⟨k, rfl⟩ : ∃ m, k = m + 1 := ⟨k - 1, by omega⟩
      cases hG : G i with
      | some w =>
        rw [hG] at h
        exact hb v (by rw [hG]; exact h) k (by omega)
      | none =>
        rw [hG] at h
        exact hs hG (e * (c + 1)) v (fun k hk => ihA v h k hk) k (by omega)
    · rw [Nat.succ_mul] at hk
      obtain ⟨k, rfl⟩ : ∃ m, k = m + 1 := ⟨k - 1, by omega⟩
      cases hG : G i with
      | some w =>
        rw [hG] at h
        cases h
      | none =>
        rw [hG] at h
        exact hs hG (K + e * (c + 1)) r (fun k hk => ihB h K r hr k hk) k (by omega)
/-- A loop within a loop: the outer one's round is the inner one from its start; at its end it goes on. -/
theorem search2 {α : Type} {F I : Nat → Nat → Option α} {m c : Nat} {G : Nat → Option α} {GO : Nat → Option α} {i : Nat} (b : Nat)
    (h : ∀ j, j < m → Step I G c j) (hG : GO i = (List.range' 0 m).findSome? G) (hin : ∀ k, b ≤ k → F (k + 1) i = I k 0) (hout : ∀ k, I (k + 1) m = F k (i + 1)) : Step F GO (b + m * (c + 1) + 1) i := by
  obtain ⟨hA, hB⟩ := search I m c G h m 0 (by omega)
  unfold Step
  rw [hG]
  refine ⟨fun v h k hk => ?_, fun h K r hr k hk => ?_⟩
  · rw [hin k (by omega)]
    exact hA v h k (by omega)
  · rw [hin k (by omega)]
    refine hB h (K + 1) r (fun k hk => ?_) k (by omega)
    obtain ⟨k, rfl⟩ : ∃ q, k = q + 1 := ⟨k - 1, by omega⟩
    rw [hout]
    exact hr k (by omega)
/-- A whole search: the first that is told, or what stands at the end. -/
theorem search0 {α : Type} {F : Nat → Nat → Option α} {n c : Nat} {G : Nat → Option α} (h : ∀ i, i < n → Step F G c i) (z : α) (hz : ∀ k, F (k + 1) n = some z) (k : Nat) (hk : n * (c + 1) + 1 ≤ k) :
    F k 0 = some (((List.range' 0 n).findSome? G).getD z) := by
  obtain ⟨hA, hB⟩ := search F n c G h n 0 (by omega)
  cases h0 : (List.range' 0 n).findSome? G with
  | some v => exact hA v h0 k (by omega)
  | none =>
    refine hB h0 1 z (fun k hk => ?_) k (by omega)
    obtain ⟨k, rfl⟩ : ∃ q, k = q + 1 := ⟨k - 1, by omega⟩
    exact hz k
theorem nat_succ (i : Nat) : ((i : Int) + 1) = ((i + 1 : Nat) : Int) := by omega
theorem fs_none {α : Type} (n : Nat) (G : Nat → Option α) : (List.range' 0 n).findSome? G = none ↔ ∀ i, i < n → G i = none := by
  rw [List.findSome?_eq_none_iff]
  constructor
  · intro h i hi
    exact h i (by rw [List.mem_range']; exact ⟨i, hi, by omega⟩)
  · intro h x hx
    rw [List.mem_range'] at hx
    obtain ⟨i, hi, e⟩ := hx
    exact h x (by omega)
theorem fs_some {α : Type} (n : Nat) (G : Nat → Option α) (v : α) (h : (List.range' 0 n).findSome? G = some v) : ∃ i, i < n ∧ G i = some v := by
  obtain ⟨x, hx, hv⟩ := List.exists_of_findSome?_eq_some h
  rw [List.mem_range'] at hx
  obtain ⟨i, hi, e⟩ := hx
  exact ⟨x, by omega, hv⟩

/-- Four cells that refuse a table. -/
def four (ms : List Nat) (r c s d : Nat) : Bool := mk ms r c && !mk ms r d && mk ms s d && !mk ms s c
def four4 (ms : List Nat) (r c s d : Nat) : Option (List Int) := if four ms r c s d = true then some [(r : Int), (c : Int), (s : Int), (d : Int)] else none
def four3 (C : Nat) (ms : List Nat) (r c s : Nat) : Option (List Int) := (List.range' 0 C).findSome? (four4 ms r c s)
def four2 (R C : Nat) (ms : List Nat) (r c : Nat) : Option (List Int) := (List.range' 0 R).findSome? (four3 C ms r c)
def four1 (R C : Nat) (ms : List Nat) (r : Nat) : Option (List Int) := (List.range' 0 C).findSome? (four2 R C ms r)
def four0 (R C : Nat) (ms : List Nat) : Option (List Int) := (List.range' 0 R).findSome? (four1 R C ms)
abbrev asInts (ms : List Nat) : List Int := ms.map (fun (x : Nat) => (x : Int))
theorem four_l3 (R C : Nat) (ms : List Nat) (hR : ms.length = R) (hC : C ≤ 6) (hb : ∀ x ∈ ms, x < 64) (r c s : Nat) (hr : r < R) (hc : c < C) (hs : s < R) (d : Nat) (hd : d < C) :
    Step (fun k d => impl_Table_fourCells.l3 k (r : Int) (c : Int) (s : Int) (R : Int) (r : Int) (C : Int) (c : Int) (R : Int) (s : Int) (C : Int) (d : Int) (R : Int) (C : Int) (asInts ms)) (four4 ms r c s) 0 d := by
  refine ⟨fun v hv k _ => ?_, fun hv K v hK k hk => ?_⟩
  all_goals
    have q1 := marked_k (R : Int) (C : Int) ms r c hb (by omega) (by omega)
    have q2 := marked_k (R : Int) (C : Int) ms r d hb (by omega) (by omega)
    have q3 := marked_k (R : Int) (C : Int) ms s d hb (by omega) (by omega)
    have q4 := marked_k (R : Int) (C : Int) ms s c hb (by omega) (by omega)
    simp only [impl_Table_fourCells.l3]
    rw [if_pos (by omega), q1, q2, q3, q4, wrap_ok (by omega) (by omega), nat_succ]
    unfold four4 four at hv
    simp only [Option.bind_some]
  · cases h1 : mk ms r c <;> cases h2 : mk ms r d <;> cases h3 : mk ms s d <;> cases h4 : mk ms s c <;> simp [h1, h2, h3, h4] at hv ⊢
    exact hv
  · have hn := hK k (by omega)
    cases h1 : mk ms r c <;> cases h2 : mk ms r d <;> cases h3 : mk ms s d <;> cases h4 : mk ms s c <;> simp [h1, h2, h3, h4] at hv ⊢ <;> exact hn
theorem four_l2 (R C : Nat) (ms : List Nat) (hR : ms.length = R) (hR6 : R ≤ 6) (hC : C ≤ 6) (hb : ∀ x ∈ ms, x < 64) (r c : Nat) (hr : r < R) (hc : c < C) (s : Nat) (hs : s < R) :
    Step (fun k s => impl_Table_fourCells.l2 k (r : Int) (c : Int) (R : Int) (r : Int) (C : Int) (c : Int) (R : Int) (s : Int) (R : Int) (C : Int) (asInts ms)) (four3 C ms r c) (0 + C * (0 + 1) + 1) s :=
  search2 0 (four_l3 R C ms hR hC hb r c s hr hc hs) rfl
    (fun k _ => by simp only [impl_Table_fourCells.l2]; rw [if_pos (by omega)]; rfl)
    (fun k => by simp only [impl_Table_fourCells.l3]; rw [if_neg (by omega), wrap_ok (by omega) (by omega), nat_succ])
theorem four_l1 (R C : Nat) (ms : List Nat) (hR : ms.length = R) (hR6 : R ≤ 6) (hC : C ≤ 6) (hb : ∀ x ∈ ms, x < 64) (r : Nat) (hr : r < R) (c : Nat) (hc : c < C) :
    Step (fun k c => impl_Table_fourCells.l1 k (r : Int) (R : Int) (r : Int) (C : Int) (c : Int) (R : Int) (C : Int) (asInts ms)) (four2 R C ms r) (0 + R * (0 + C * (0 + 1) + 1 + 1) + 1) c :=
  search2 0 (four_l2 R C ms hR hR6 hC hb r c hr hc) rfl
    (fun k _ => by simp only [impl_Table_fourCells.l1]; rw [if_pos (by omega)]; rfl)
    (fun k => by simp only [impl_Table_fourCells.l2]; rw [if_neg (by omega), wrap_ok (by omega) (by omega), nat_succ])
theorem four_l0 (R C : Nat) (ms : List Nat) (hR : ms.length = R) (hR6 : R ≤ 6) (hC : C ≤ 6) (hb : ∀ x ∈ ms, x < 64) (r : Nat) (hr : r < R) :
    Step (fun k r => impl_Table_fourCells.l0 k (R : Int) (r : Int) (R : Int) (C : Int) (asInts ms)) (four1 R C ms) (0 + C * (0 + R * (0 + C * (0 + 1) + 1 + 1) + 1 + 1) + 1) r :=
  search2 0 (four_l1 R C ms hR hR6 hC hb r hr) rfl
    (fun k _ => by simp only [impl_Table_fourCells.l0]; rw [if_pos (by omega)]; rfl)
    (fun k => by simp only [impl_Table_fourCells.l1]; rw [if_neg (by omega), wrap_ok (by omega) (by omega), nat_succ])
theorem four_bound (R C : Nat) (hR6 : R ≤ 6) (hC : C ≤ 6) : R * (0 + C * (0 + R * (0 + C * (0 + 1) + 1 + 1) + 1 + 1) + 1 + 1) + 1 ≤ 4000 := by
  have h1 : C * (0 + 1) ≤ 6 * (0 + 1) := Nat.mul_le_mul hC (Nat.le_refl _)
  have h2 : R * (0 + C * (0 + 1) + 1 + 1) ≤ 6 * (0 + 6 * (0 + 1) + 1 + 1) := Nat.mul_le_mul hR6 (by omega)
  have h3 : C * (0 + R * (0 + C * (0 + 1) + 1 + 1) + 1 + 1) ≤ 6 * (0 + 6 * (0 + 6 * (0 + 1) + 1 + 1) + 1 + 1) := Nat.mul_le_mul hC (by omega)
  have h4 : R * (0 + C * (0 + R * (0 + C * (0 + 1) + 1 + 1) + 1 + 1) + 1 + 1) ≤ 6 * (0 + 6 * (0 + 6 * (0 + 6 * (0 + 1) + 1 + 1) + 1 + 1) + 1 + 1) := Nat.mul_le_mul hR6 (by omega)
  omega
/-- The first four cells that refuse a table, or nothing. -/
theorem fourCells_k (R C : Nat) (ms : List Nat) (hR : ms.length = R) (hR6 : R ≤ 6) (hC : C ≤ 6) (hb : ∀ x ∈ ms, x < 64) (k : Nat) (hk : 4000 ≤ k) : impl_Table_fourCells.f k (R : Int) (C : Int) (asInts ms) = some ((four0 R C ms).getD []) := by
  unfold impl_Table_fourCells.f
  have hn := four_bound R C hR6 hC
  exact search0 (four_l0 R C ms hR hR6 hC hb) [] (fun k => by simp only [impl_Table_fourCells.l0]; rw [if_neg (by omega)]) k (by omega)
theorem four0_ne (R C : Nat) (ms : List Nat) (v : List Int) (h : four0 R C ms = some v) : v ≠ [] := by
  unfold four0 at h
  obtain ⟨i, _, h1⟩ := fs_some _ _ _ h
  unfold four1 at h1
  obtain ⟨j, _, h2⟩ := fs_some _ _ _ h1
  unfold four2 at h2
  obtain ⟨i, _, h3⟩ := fs_some _ _ _ h2
  unfold four3 at h3
  obtain ⟨i, _, h4⟩ := fs_some _ _ _ h3
  unfold four4 at h4
  split at h4
  · injection h4 with h4
    rw [← h4]
    simp
  · cases h4
theorem four_len (R C : Nat) (ms : List Nat) : ((four0 R C ms).getD []).length ≤ 4 := by
  cases h : four0 R C ms with
  | none => simp
  | some v =>
    unfold four0 at h
    obtain ⟨i, _, h1⟩ := fs_some _ _ _ h
    unfold four1 at h1
    obtain ⟨j, _, h2⟩ := fs_some _ _ _ h1
    unfold four2 at h2
    obtain ⟨i, _, h3⟩ := fs_some _ _ _ h2
    unfold four3 at h3
    obtain ⟨i, _, h4⟩ := fs_some _ _ _ h3
    unfold four4 at h4
    split at h4
    · injection h4 with h4
      rw [← h4]
      simp
    · cases h4

theorem findSome_filter {α β : Type} (p : α → Bool) (g : α → Option β) (l : List α) : (l.filter p).findSome? g = l.findSome? (fun x => if p x = true then g x else none) := by
  induction l with
  | nil => rfl
  | cons a l ih =>
    rw [List.filter_cons]
    cases h : p a
    · simp [h, ih]
    · rw [if_pos rfl, List.findSome?_cons, List.findSome?_cons, ih, h, if_pos rfl]
theorem findSome_congr {α β : Type} (g g' : α → Option β) (l : List α) (h : ∀ x ∈ l, g x = g' x) : l.findSome? g = l.findSome? g' := by
  induction l with
  | nil => rfl
  | cons a l ih =>
    rw [List.findSome?_cons, List.findSome?_cons, h a (by simp), ih (fun x hx => h x (by simp [hx]))]
theorem findSome_get {α β : Type} (d : α) (g : α → Option β) (l : List α) : (List.range' 0 l.length).findSome? (fun i => g (l.getD i d)) = l.findSome? g := by
  have e : (List.range' 0 l.length).map (fun i => l.getD i d) = l := by
    apply List.ext_getElem?
    intro i
    by_cases h : i < l.length
    · simp [List.getElem?_range' h, h]
    · rw [List.getElem?_eq_none (by simp; omega), List.getElem?_eq_none (by omega)]
  conv => rhs; rw [← e]
  rw [List.findSome?_map]
  rfl
/-- What the reference tells of a row, a column that is marked in it, a second row and a column. -/
def sp4 (ms : List Nat) (r c s d : Nat) : Option (List Int × Bool) := if mk ms s c = true then none else some ([(r : Int), (c : Int), (s : Int), (d : Int)], true)
def sp3 (C : Nat) (ms : List Nat) (r c s : Nat) : Option (List Int × Bool) := (elemsTo (andn (ms.getD s 0) (ms.getD r 0)) C).findSome? (sp4 ms r c s)
def sp2 (C : Nat) (ms : List Nat) (r c : Nat) : Option (List Int × Bool) := (List.range' 0 ms.length).findSome? (sp3 C ms r c)
def sp1 (C : Nat) (ms : List Nat) (r : Nat) : Option (List Int × Bool) := (elemsTo (ms.getD r 0) C).findSome? (sp2 C ms r)
def sp0 (C : Nat) (ms : List Nat) : Option (List Int × Bool) := (List.range' 0 ms.length).findSome? (sp1 C ms)
theorem getD_map (l : List Nat) (j : Nat) : rd (asInts l) (j : Int) = ((l.getD j 0 : Nat) : Int) := rd_map l j
theorem elems_lt (x m j : Nat) (hj : j < (elemsTo x m).length) : (elemsTo x m).getD j 0 < m := by
  rw [List.getD_eq_getElem?_getD, List.getElem?_eq_getElem hj]
  have h2 : (elemsTo x m)[j] ∈ (List.range m).filter x.testBit := List.getElem_mem hj
  exact List.mem_range.1 (List.mem_filter.1 h2).1
theorem sp_l3 (R C : Int) (ms : List Nat) (h6 : ms.length ≤ 6) (hb : ∀ x ∈ ms, x < 64) (r c s : Nat) (hc : c < 64) (L1 L2 : List Nat) (h2 : L2.length ≤ 60) (j1 : Int) (d : Nat) (hd : d < L2.length) :
    Step (fun k d => spec_FourCells.l3 k (r : Int) ((ms.getD r 0 : Nat) : Int) (c : Int) (s : Int) ((ms.getD s 0 : Nat) : Int) (asInts ms) (ms.length : Int) (r : Int) (asInts L1) (L1.length : Int) j1 (asInts ms) (ms.length : Int) (s : Int) (asInts L2) (L2.length : Int) (d : Int) R C (asInts ms)) (fun d => sp4 ms r c s (L2.getD d 0)) 0 d := by
  refine ⟨fun v hv k _ => ?_, fun hv K v hK k hk => ?_⟩
  all_goals
    have l2 : ((asInts L2).length : Int) = (L2.length : Int) := by simp
    simp only [spec_FourCells.l3]
    rw [if_pos (by omega), if_pos (by omega), if_pos (by omega), orHas_k _ c (by omega), getD_map, wrap_ok (by omega) (by omega), nat_succ]
    have em : (ms.getD s 0).testBit c = mk ms s c := rfl
    rw [em]
    simp only [sp4] at hv
    simp only [Option.bind_some]
    cases h1 : mk ms s c
  · rw [if_neg (by simp)]
    rw [h1, if_neg (by simp)] at hv
    exact hv
  · rw [h1, if_pos rfl] at hv
    cases hv
  · rw [h1, if_neg (by simp)] at hv
    cases hv
  · rw [if_pos rfl]
    exact hK k (by omega)
theorem sp_l2 (R C : Int) (m : Nat) (hm : m ≤ 6) (ms : List Nat) (h6 : ms.length ≤ 6) (hb : ∀ x ∈ ms, x < 64) (hbm : ∀ x ∈ ms, x < 2 ^ m) (r c : Nat) (hc : c < 64) (L1 : List Nat) (j1 : Int) (s : Nat) (hs : s < ms.length) :
    Step (fun k s => spec_FourCells.l2 k (r : Int) ((ms.getD r 0 : Nat) : Int) (c : Int) (asInts ms) (ms.length : Int) (r : Int) (asInts L1) (L1.length : Int) j1 (asInts ms) (ms.length : Int) (s : Int) R C (asInts ms)) (sp3 m ms r c) (7 + 6 * (0 + 1) + 1) s := by
  have l1 : ((asInts ms).length : Int) = (ms.length : Int) := by simp
  have a1 := getD_lt (b := 64) (by omega) hb r
  have a2 := getD_lt (b := 64) (by omega) hb s
  have a3 := getD_lt (Nat.two_pow_pos m) hbm s
  have a4 := andn_le (ms.getD s 0) (ms.getD r 0)
  have L := elemsTo_length (andn (ms.getD s 0) (ms.getD r 0)) m
  have st := search2 (F := fun k s => spec_FourCells.l2 k (r : Int) ((ms.getD r 0 : Nat) : Int) (c : Int) (asInts ms) (ms.length : Int) (r : Int) (asInts L1) (L1.length : Int) j1 (asInts ms) (ms.length : Int) (s : Int) R C (asInts ms)) (GO := sp3 m ms r c) 7
    (sp_l3 R C ms h6 hb r c s hc L1 (elemsTo (andn (ms.getD s 0) (ms.getD r 0)) m) (by omega) j1)
    (by unfold sp3; rw [findSome_get 0 (sp4 ms r c s)])
    (fun k hk => by
      simp only [spec_FourCells.l2]
      rw [if_pos (by omega), if_pos (by omega), if_pos (by omega), rd_map, andNot_nat _ _ (by omega) (by omega), orList_k _ m (by omega) (by omega) k (by omega)]
      simp only [Option.bind_some]
      rw [show (((elemsTo (andn (ms.getD s 0) (ms.getD r 0)) m).map (fun (y : Nat) => (y : Int))).length : Int) = ((elemsTo (andn (ms.getD s 0) (ms.getD r 0)) m).length : Int) by simp]
      rfl)
    (fun k => by simp only [spec_FourCells.l3]; rw [if_neg (by omega), wrap_ok (by omega) (by omega), nat_succ])
  refine ⟨fun v hv k hk => st.1 v hv k (by omega), fun hv K v hK k hk => st.2 hv K v hK k (by omega)⟩
theorem sp_l1 (R C : Int) (m : Nat) (hm : m ≤ 6) (ms : List Nat) (h6 : ms.length ≤ 6) (hb : ∀ x ∈ ms, x < 64) (hbm : ∀ x ∈ ms, x < 2 ^ m) (r : Nat) (L1 : List Nat) (hL : L1.length ≤ 6) (hL2 : ∀ j, j < L1.length → L1.getD j 0 < 64) (j : Nat) (hj : j < L1.length) :
    Step (fun k j => spec_FourCells.l1 k (r : Int) ((ms.getD r 0 : Nat) : Int) (asInts ms) (ms.length : Int) (r : Int) (asInts L1) (L1.length : Int) (j : Int) R C (asInts ms)) (fun j => sp2 m ms r (L1.getD j 0)) (0 + 6 * (7 + 6 * (0 + 1) + 1 + 1) + 1) j := by
  have l1 : ((asInts ms).length : Int) = (ms.length : Int) := by simp
  have l2 : ((asInts L1).length : Int) = (L1.length : Int) := by simp
  have st := search2 (F := fun k j => spec_FourCells.l1 k (r : Int) ((ms.getD r 0 : Nat) : Int) (asInts ms) (ms.length : Int) (r : Int) (asInts L1) (L1.length : Int) (j : Int) R C (asInts ms)) (GO := fun j => sp2 m ms r (L1.getD j 0)) 0
    (sp_l2 R C m hm ms h6 hb hbm r (L1.getD j 0) (hL2 j hj) L1 (j : Int)) rfl
    (fun k _ => by
      simp only [spec_FourCells.l1]
      rw [if_pos (by omega), if_pos (by omega), if_pos (by omega), getD_map, l1]
      rfl)
    (fun k => by simp only [spec_FourCells.l2]; rw [if_neg (by omega), wrap_ok (by omega) (by omega), nat_succ])
  have hmul : ms.length * (7 + 6 * (0 + 1) + 1 + 1) ≤ 6 * (7 + 6 * (0 + 1) + 1 + 1) := Nat.mul_le_mul h6 (Nat.le_refl _)
  refine ⟨fun v hv k hk => st.1 v hv k (by omega), fun hv K v hK k hk => st.2 hv K v hK k (by omega)⟩
theorem sp_l0 (R C : Int) (m : Nat) (hm : m ≤ 6) (ms : List Nat) (h6 : ms.length ≤ 6) (hb : ∀ x ∈ ms, x < 64) (hbm : ∀ x ∈ ms, x < 2 ^ m) (r : Nat) (hr : r < ms.length) :
    Step (fun k r => spec_FourCells.l0 k (asInts ms) (ms.length : Int) (r : Int) R C (asInts ms)) (sp1 m ms) (7 + 6 * (0 + 6 * (7 + 6 * (0 + 1) + 1 + 1) + 1 + 1) + 1) r := by
  have l1 : ((asInts ms).length : Int) = (ms.length : Int) := by simp
  have a3 := getD_lt (Nat.two_pow_pos m) hbm r
  have L := elemsTo_length (ms.getD r 0) m
  have st := search2 (F := fun k r => spec_FourCells.l0 k (asInts ms) (ms.length : Int) (r : Int) R C (asInts ms)) (GO := sp1 m ms) 7
    (sp_l1 R C m hm ms h6 hb hbm r (elemsTo (ms.getD r 0) m) (by omega) (fun j hj => by have := elems_lt (ms.getD r 0) m j hj; omega))
    (by unfold sp1; rw [findSome_get 0 (sp2 m ms r)])
    (fun k hk => by
      simp only [spec_FourCells.l0]
      rw [if_pos (by omega), if_pos (by omega), if_pos (by omega), rd_map, orList_k _ m a3 (by omega) k (by omega)]
      simp only [Option.bind_some]
      rw [show (((elemsTo (ms.getD r 0) m).map (fun (y : Nat) => (y : Int))).length : Int) = ((elemsTo (ms.getD r 0) m).length : Int) by simp]
      rfl)
    (fun k => by simp only [spec_FourCells.l1]; rw [if_neg (by omega), wrap_ok (by omega) (by omega), nat_succ])
  have hmul : (elemsTo (ms.getD r 0) m).length * (0 + 6 * (7 + 6 * (0 + 1) + 1 + 1) + 1 + 1) ≤ 6 * (0 + 6 * (7 + 6 * (0 + 1) + 1 + 1) + 1 + 1) := Nat.mul_le_mul (by omega) (Nat.le_refl _)
  refine ⟨fun v hv k hk => st.1 v hv k (by omega), fun hv K v hK k hk => st.2 hv K v hK k (by omega)⟩
theorem spFour_k (R C : Int) (m : Nat) (hm : m ≤ 6) (ms : List Nat) (h6 : ms.length ≤ 6) (hb : ∀ x ∈ ms, x < 64) (hbm : ∀ x ∈ ms, x < 2 ^ m) (k : Nat) (hk : 5000 ≤ k) :
    spec_FourCells.l0 k (asInts ms) (ms.length : Int) 0 R C (asInts ms) = some ((sp0 m ms).getD ([], false)) := by
  have hmul : ms.length * (7 + 6 * (0 + 6 * (7 + 6 * (0 + 1) + 1 + 1) + 1 + 1) + 1 + 1) ≤ 6 * (7 + 6 * (0 + 6 * (7 + 6 * (0 + 1) + 1 + 1) + 1 + 1) + 1 + 1) := Nat.mul_le_mul h6 (Nat.le_refl _)
  have e6 : 6 * (7 + 6 * (0 + 6 * (7 + 6 * (0 + 1) + 1 + 1) + 1 + 1) + 1 + 1) + 1 ≤ 5000 := by decide
  have hk2 : ms.length * (7 + 6 * (0 + 6 * (7 + 6 * (0 + 1) + 1 + 1) + 1 + 1) + 1 + 1) + 1 ≤ k := Nat.le_trans (Nat.succ_le_succ hmul) (Nat.le_trans e6 hk)
  generalize hA : 7 + 6 * (0 + 6 * (7 + 6 * (0 + 1) + 1 + 1) + 1 + 1) + 1 = A at hk2
  have hs := sp_l0 R C m hm ms h6 hb hbm
  rw [hA] at hs
  exact search0 hs ([], false) (fun k => by simp only [spec_FourCells.l0]; rw [if_neg (by omega)]) k hk2
theorem map_findSome {α β γ : Type} (f : β → γ) (g : α → Option β) (l : List α) : (l.findSome? g).map f = l.findSome? (fun x => (g x).map f) := by
  induction l with
  | nil => rfl
  | cons a l ih =>
    rw [List.findSome?_cons, List.findSome?_cons]
    cases g a with
    | none => simpa using ih
    | some b => rfl
theorem range_eq (n : Nat) : List.range n = List.range' 0 n := List.range_eq_range'
/-- Both searches tell the same. -/
theorem four_eq (C : Nat) (ms : List Nat) : sp0 C ms = (four0 ms.length C ms).map (fun l => (l, true)) := by
  unfold sp0 four0
  rw [map_findSome]
  apply findSome_congr
  intro r _
  unfold sp1 four1
  rw [map_findSome]
  unfold elemsTo
  rw [findSome_filter, range_eq]
  apply findSome_congr
  intro c _
  unfold four2
  rw [map_findSome]
  by_cases h1 : (ms.getD r 0).testBit c = true
  · rw [if_pos h1]
    unfold sp2
    apply findSome_congr
    intro s _
    unfold sp3 four3
    rw [map_findSome]
    unfold elemsTo
    rw [findSome_filter, range_eq]
    apply findSome_congr
    intro d _
    unfold sp4 four4 four
    rw [andn_bit]
    have e1 : mk ms r c = true := h1
    have e2 : mk ms r d = (ms.getD r 0).testBit d := rfl
    have e3 : mk ms s d = (ms.getD s 0).testBit d := rfl
    rw [e1, e2, e3]
    cases (ms.getD r 0).testBit d <;> cases (ms.getD s 0).testBit d <;> cases mk ms s c <;> rfl
  · rw [if_neg h1]
    symm
    rw [fs_none]
    intro s _
    rw [Option.map_eq_none_iff]
    unfold four3
    rw [fs_none]
    intro d _
    unfold four4 four
    have e1 : mk ms r c = false := by
      unfold mk
      simpa using h1
    rw [e1]
    rfl

/-- Do two rows refuse a table? -/
def bio2 (ms : List Nat) (i j : Nat) : Option Bool := if andn (ms.getD i 0) (ms.getD j 0) ≠ 0 ∧ andn (ms.getD j 0) (ms.getD i 0) ≠ 0 then some false else none
def bio1 (ms : List Nat) (i : Nat) : Option Bool := (List.range' 0 ms.length).findSome? (bio2 ms i)
def bio0 (ms : List Nat) : Option Bool := (List.range' 0 ms.length).findSome? (bio1 ms)
theorem bio_in (R C : Int) (ms : List Nat) (h6 : ms.length ≤ 6) (hb : ∀ x ∈ ms, x < 64) (i : Nat) (j : Nat) (hj : j < ms.length) :
    Step (fun k j => spec_feBiorder.l1 k ((ms.getD i 0 : Nat) : Int) (asInts ms) (ms.length : Int) (i : Int) (asInts ms) (ms.length : Int) (j : Int) R C (asInts ms)) (bio2 ms i) 0 j := by
  refine ⟨fun v hv k _ => ?_, fun hv K v hK k hk => ?_⟩
  all_goals
    have a1 := getD_lt (b := 64) (by omega) hb i
    have a2 := getD_lt (b := 64) (by omega) hb j
    have l1 : ((asInts ms).length : Int) = (ms.length : Int) := by simp
    simp only [spec_feBiorder.l1]
    rw [if_pos (by omega), if_pos (by omega), if_pos (by omega), rd_map, andNot_nat _ _ (by omega) (by omega), andNot_nat _ _ (by omega) (by omega), wrap_ok (by omega) (by omega), nat_succ]
    unfold bio2 at hv
  · by_cases h1 : andn (ms.getD i 0) (ms.getD j 0) = 0
    · rw [if_neg (fun hh => hh.1 h1)] at hv
      cases hv
    · by_cases h2 : andn (ms.getD j 0) (ms.getD i 0) = 0
      · rw [if_neg (fun hh => hh.2 h2)] at hv
        cases hv
      · rw [if_neg (by omega), if_neg (by omega)]
        rw [if_pos ⟨h1, h2⟩] at hv
        exact hv
  · have hn := hK k (by omega)
    by_cases h1 : andn (ms.getD i 0) (ms.getD j 0) = 0
    · rw [if_pos (by omega)]
      exact hn
    · by_cases h2 : andn (ms.getD j 0) (ms.getD i 0) = 0
      · rw [if_neg (by omega), if_pos (by omega)]
        exact hn
      · rw [if_pos ⟨h1, h2⟩] at hv
        cases hv
theorem bio_out (R C : Int) (ms : List Nat) (h6 : ms.length ≤ 6) (hb : ∀ x ∈ ms, x < 64) (i : Nat) (hi : i < ms.length) :
    Step (fun k i => spec_feBiorder.l0 k (asInts ms) (ms.length : Int) (i : Int) R C (asInts ms)) (bio1 ms) (0 + ms.length * (0 + 1) + 1) i :=
  search2 0 (bio_in R C ms h6 hb i) rfl
    (fun k _ => by
      have l1 : ((asInts ms).length : Int) = (ms.length : Int) := by simp
      simp only [spec_feBiorder.l0]
      rw [if_pos (by omega), if_pos (by omega), if_pos (by omega), rd_map, l1]
      rfl)
    (fun k => by simp only [spec_feBiorder.l1]; rw [if_neg (by omega), wrap_ok (by omega) (by omega), nat_succ])
theorem feBiorder_k (R C : Int) (ms : List Nat) (h6 : ms.length ≤ 6) (hb : ∀ x ∈ ms, x < 64) (k : Nat) (hk : 100 ≤ k) : spec_feBiorder.f k R C (asInts ms) = some ((bio0 ms).getD true) := by
  unfold spec_feBiorder.f
  have hn : ms.length * (0 + ms.length * (0 + 1) + 1 + 1) ≤ 6 * (0 + 6 * (0 + 1) + 1 + 1) := Nat.mul_le_mul h6 (by omega)
  have l1 : ((asInts ms).length : Int) = (ms.length : Int) := by simp
  rw [l1]
  exact search0 (bio_out R C ms h6 hb) true (fun k => by simp only [spec_feBiorder.l0]; rw [if_neg (by omega)]) k (by omega)
theorem andn_ne (a b : Nat) : andn a b ≠ 0 ↔ ∃ i, a.testBit i = true ∧ b.testBit i = false := by
  constructor
  · intro h
    apply Classical.byContradiction
    intro hn
    apply h
    rw [andn_zero]
    intro i hi
    cases hb : b.testBit i
    · exact absurd ⟨i, hi, hb⟩ hn
    · rfl
  · rintro ⟨i, h1, h2⟩ h
    have := (andn_zero a b).1 h i h1
    rw [h2] at this
    cases this
theorem bit_lt {x c i : Nat} (hx : x < 2 ^ c) (h : x.testBit i = true) : i < c := by
  apply Classical.byContradiction
  intro hn
  have : x.testBit i = false := Nat.testBit_lt_two_pow (Nat.lt_of_lt_of_le hx (Nat.pow_le_pow_right (by omega) (by omega)))
  rw [h] at this
  cases this
/-- No four cells refuse a table exactly if no two rows do. -/
theorem four_bio (R C : Nat) (ms : List Nat) (hR : ms.length = R) (hb : ∀ x ∈ ms, x < 2 ^ C) : four0 R C ms = none ↔ bio0 ms = none := by
  subst hR
  unfold four0 bio0
  rw [fs_none, fs_none]
  constructor
  · intro h i hi
    unfold bio1
    rw [fs_none]
    intro j hj
    unfold bio2
    rw [if_neg]
    rintro ⟨h1, h2⟩
    obtain ⟨c, hc1, hc2⟩ := (andn_ne _ _).1 h1
    obtain ⟨d, hd1, hd2⟩ := (andn_ne _ _).1 h2
    have hcC := bit_lt (getD_lt (Nat.two_pow_pos _) hb i) hc1
    have hdC := bit_lt (getD_lt (Nat.two_pow_pos _) hb j) hd1
    have g1 := h i hi
    unfold four1 at g1
    rw [fs_none] at g1
    have g2 := g1 c hcC
    unfold four2 at g2
    rw [fs_none] at g2
    have g3 := g2 j hj
    unfold four3 at g3
    rw [fs_none] at g3
    have g4 := g3 d hdC
    unfold four4 four mk at g4
    rw [hc1, hc2, hd1, hd2] at g4
    simp at g4
  · intro h r hr
    unfold four1
    rw [fs_none]
    intro c hc
    unfold four2
    rw [fs_none]
    intro s hs
    unfold four3
    rw [fs_none]
    intro d hd
    unfold four4
    rw [if_neg]
    intro hf
    unfold four mk at hf
    simp only [Bool.and_eq_true, Bool.not_eq_true'] at hf
    obtain ⟨⟨⟨f1, f2⟩, f3⟩, f4⟩ := hf
    have g1 := h r hr
    unfold bio1 at g1
    rw [fs_none] at g1
    have g2 := g1 s hs
    unfold bio2 at g2
    rw [if_pos ⟨(andn_ne _ _).2 ⟨c, f1, f4⟩, (andn_ne _ _).2 ⟨d, f3, f2⟩⟩] at g2
    cases g2
theorem bio0_false (ms : List Nat) (v : Bool) (h : bio0 ms = some v) : v = false := by
  unfold bio0 at h
  obtain ⟨i, _, h1⟩ := fs_some _ _ _ h
  unfold bio1 at h1
  obtain ⟨j, _, h2⟩ := fs_some _ _ _ h1
  unfold bio2 at h2
  split at h2
  · injection h2 with h2
    exact h2.symm
  · cases h2

theorem and255 (x : Int) : 0 ≤ Go.bits .and .u64 x 255 ∧ Go.bits .and .u64 x 255 < 256 := by
  unfold Go.bits
  show 0 ≤ IntKind.u64.wrap (((BitVec.ofInt 64 x &&& BitVec.ofInt 64 255).toNat : Nat) : Int) ∧ IntKind.u64.wrap (((BitVec.ofInt 64 x &&& BitVec.ofInt 64 255).toNat : Nat) : Int) < 256
  have h : (BitVec.ofInt 64 x &&& BitVec.ofInt 64 255).toNat ≤ 255 := by
    rw [BitVec.toNat_and]
    exact Nat.and_le_right
  rw [IntKind.wrap_u64]
  omega
theorem rd_byte (s : List Int) (hb : ∀ x ∈ s, 0 ≤ x ∧ x < 256) (p : Int) (h0 : 0 ≤ p) (h1 : p < s.length) : 0 ≤ rd s p ∧ rd s p < 256 := by
  obtain ⟨n, rfl⟩ := Int.eq_ofNat_of_zero_le h0
  have hn : n < s.length := by omega
  have e : rd s ((n : Nat) : Int) = s[n] := by
    rw [rd_nat, List.getD_eq_getElem?_getD, List.getElem?_eq_getElem hn]
    rfl
  show 0 ≤ rd s ((n : Nat) : Int) ∧ rd s ((n : Nat) : Int) < 256
  rw [e]
  exact hb _ (List.getElem_mem hn)
theorem next_ok (s : List Int) (hs : s.length ≤ 1048576) (hb : ∀ x ∈ s, 0 ≤ x ∧ x < 256) (p h : Int) (h0 : 0 ≤ p) (h1 : p ≤ 1000000000) : ∃ v h', spec_l1Cur_next.f s p h = some (v, p + 1, h') ∧ 0 ≤ v ∧ v < 256 := by
  have w : wrap64 (p + 1) = p + 1 := wrap_ok (by omega) (by omega)
  unfold spec_l1Cur_next.f
  rw [w]
  by_cases hp : p < (s.length : Int)
  · have hv := rd_byte s hb p h0 hp
    rw [if_pos hp, if_pos h0, if_pos (by omega), wrap_ok (x := rd s p) (by omega) (by omega)]
    exact ⟨_, _, rfl, hv.1, hv.2⟩
  · rw [if_neg hp, if_neg (by omega)]
    refine ⟨_, _, rfl, ?_⟩
    have := and255 ((IntKind.u64.wrap ((IntKind.u64.wrap ((IntKind.u64.wrap (h * 6364136223846793005)) + 0)) + 1442695040888963407)) / 1099511627776)
    rw [wrap_ok (by omega) (by omega)]
    exact this
theorem pick_ok (s : List Int) (hs : s.length ≤ 1048576) (hb : ∀ x ∈ s, 0 ≤ x ∧ x < 256) (p h a : Int) (h0 : 0 ≤ p) (h1 : p ≤ 900000000) : ∃ v p' h', spec_l1Cur_pick.f s p h a = some (v, p', h') ∧ 0 ≤ v ∧ (1 < a → v < a) ∧ (a ≤ 1 → v = 0) ∧ p ≤ p' ∧ p' ≤ p + 2 := by
  unfold spec_l1Cur_pick.f
  by_cases ha : a ≤ 1
  · rw [if_pos ha]
    exact ⟨0, p, h, rfl, by omega, by omega, fun _ => rfl, by omega, by omega⟩
  · rw [if_neg ha]
    obtain ⟨v, h', e, hv0, hv1⟩ := next_ok s hs hb p h h0 (by omega)
    rw [e]
    simp only [Option.bind_some]
    by_cases h2 : a > 200
    · rw [if_pos h2]
      obtain ⟨v2, h3, e2, hw0, hw1⟩ := next_ok s hs hb (p + 1) h' (by omega) (by omega)
      rw [e2]
      simp only [Option.bind_some]
      rw [if_neg (by omega), wrap_ok (x := v * 256) (by omega) (by omega), wrap_ok (by omega) (by omega)]
      exact ⟨_, _, _, rfl, Int.tmod_nonneg _ (by omega), fun _ => Int.tmod_lt_of_pos _ (by omega), fun h => absurd h ha, by omega, by omega⟩
    · rw [if_neg h2, if_neg (by omega)]
      exact ⟨_, _, _, rfl, Int.tmod_nonneg _ (by omega), fun _ => Int.tmod_lt_of_pos _ (by omega), fun h => absurd h ha, by omega, by omega⟩
theorem one_ok (s : List Int) (hs : s.length ≤ 1048576) (hb : ∀ x ∈ s, 0 ≤ x ∧ x < 256) (p h a : Int) (h0 : 0 ≤ p) (h1 : p ≤ 900000000) : ∃ v p' h', spec_l1Cur_one.f s p h a = some (v, p', h') ∧ p ≤ p' ∧ p' ≤ p + 2 := by
  unfold spec_l1Cur_one.f
  obtain ⟨v, p', h', e, _, _, _, e3, e4⟩ := pick_ok s hs hb p h a h0 h1
  rw [e]
  exact ⟨_, _, _, rfl, e3, e4⟩
theorem among_ok (s : List Int) (hs : s.length ≤ 1048576) (hb : ∀ x ∈ s, 0 ≤ x ∧ x < 256) (p h : Int) (l : List Int) (hl : 1 ≤ l.length) (h0 : 0 ≤ p) (h1 : p ≤ 900000000) : ∃ v p' h', spec_l1Cur_among.f s p h l = some (v, p', h') ∧ p ≤ p' ∧ p' ≤ p + 2 := by
  unfold spec_l1Cur_among.f
  obtain ⟨v, p', h', e, e0, e1, e2, e3, e4⟩ := pick_ok s hs hb p h (l.length : Int) h0 h1
  rw [e]
  simp only [Option.bind_some]
  rw [if_pos e0, if_pos (by by_cases h : 1 < (l.length : Int); exact e1 h; have := e2 (by omega); omega)]
  exact ⟨_, _, _, rfl, e3, e4⟩

theorem among_mem (s : List Int) (hs : s.length ≤ 1048576) (hb : ∀ x ∈ s, 0 ≤ x ∧ x < 256) (p h : Int) (l : List Int) (hl : 1 ≤ l.length) (h0 : 0 ≤ p) (h1 : p ≤ 900000000) : ∃ v p' h', spec_l1Cur_among.f s p h l = some (v, p', h') ∧ v ∈ l ∧ p ≤ p' ∧ p' ≤ p + 2 := by
  unfold spec_l1Cur_among.f
  obtain ⟨v, p', h', e, e0, e1, e2, e3, e4⟩ := pick_ok s hs hb p h (l.length : Int) h0 h1
  have hv : v < (l.length : Int) := by
    by_cases h : 1 < (l.length : Int)
    · exact e1 h
    · have := e2 (by omega)
      omega
  rw [e]
  simp only [Option.bind_some]
  rw [if_pos e0, if_pos hv]
  refine ⟨_, _, _, rfl, ?_, e3, e4⟩
  obtain ⟨n, rfl⟩ := Int.eq_ofNat_of_zero_le e0
  have hn : n < l.length := by omega
  show rd l ((n : Nat) : Int) ∈ l
  rw [rd_nat, List.getD_eq_getElem?_getD, List.getElem?_eq_getElem hn]
  exact List.getElem_mem hn

/-- Is a row's number at least a column's? -/
def scP (A B : List Int) (r c : Nat) : Bool := decide (rd B (c : Int) ≤ rd A (r : Int))
theorem scales_l0 (A B : List Int) (hA : A.length ≤ 6) (hB : B.length ≤ 6) : ∀ (d k i : Nat) (out : List Int), i + d = A.length → d * (B.length + 3) < k → out = (List.range i).map (fun r => ((bitsum (scP A B r) B.length : Nat) : Int)) →
    spec_TableOfScales.l0 k B A (A.length : Int) (i : Int) (A.length : Int) (B.length : Int) out = some ((A.length : Int), (B.length : Int), relList A.length B.length (scP A B), true) := by
  intro d
  induction d with
  | zero =>
    intro k i out hi hk ho
    obtain ⟨k, rfl⟩ : ∃ m, k = m + 1 := ⟨k - 1, by omega⟩
    simp only [spec_TableOfScales.l0]
    have e : i = A.length := by omega
    rw [if_neg (by omega), ho, e]
    rfl
  | succ d ih =>
    intro k i out hi hk ho
    rw [Nat.succ_mul] at hk
    obtain ⟨k, rfl⟩ : ∃ m, k = m + 1 := ⟨k - 1, by omega⟩
    simp only [spec_TableOfScales.l0]
    rw [if_pos (by omega), if_pos (by omega), if_pos (by omega)]
    have inner : ∀ (e k j : Nat), j + e = B.length → d * (B.length + 3) + 1 + e < k → spec_TableOfScales.l1 k B (rd A (i : Int)) ((bitsum (scP A B i) j : Nat) : Int) A (A.length : Int) (i : Int) B (B.length : Int) (j : Int) (A.length : Int) (B.length : Int) out = some ((A.length : Int), (B.length : Int), relList A.length B.length (scP A B), true) := by
      intro e
      induction e with
      | zero =>
        intro k j hj hk
        obtain ⟨k, rfl⟩ : ∃ m, k = m + 1 := ⟨k - 1, by omega⟩
        simp only [spec_TableOfScales.l1]
        have e1 : ((i : Int) + 1) = ((i + 1 : Nat) : Int) := by omega
        have e2 : j = B.length := by omega
        have ol : out.length = i := by rw [ho]; simp
        rw [if_neg (by omega), if_pos (by omega), wrap_ok (by omega) (by omega), e1]
        refine ih k (i + 1) _ (by omega) (by omega) ?_
        rw [ho, List.range_succ, List.map_append, e2]
        rfl
      | succ e ihe =>
        intro k j hj hk
        obtain ⟨k, rfl⟩ : ∃ m, k = m + 1 := ⟨k - 1, by omega⟩
        simp only [spec_TableOfScales.l1]
        have e1 : ((j : Int) + 1) = ((j + 1 : Nat) : Int) := by omega
        have next := ihe k (j + 1) (by omega) (by omega)
        rw [if_pos (by omega), if_pos (by omega), if_pos (by omega), wrap_ok (by omega) (by omega), e1]
        by_cases hp : rd B (j : Int) ≤ rd A (i : Int)
        · rw [if_pos hp, or_shl _ j (Nat.lt_of_lt_of_le (bitsum_lt (scP A B i) j) (Nat.pow_le_pow_right (by omega) (by omega))) (by omega)]
          have e2 : bitsum (scP A B i) (j + 1) = bitsum (scP A B i) j ||| 2 ^ j := by simp [bitsum, scP, hp]
          rw [← e2]
          exact next
        · rw [if_neg hp]
          have e2 : bitsum (scP A B i) (j + 1) = bitsum (scP A B i) j := by simp [bitsum, scP, hp]
          rw [← e2]
          exact next
    have := inner B.length k 0 (by omega) (by omega)
    simpa [bitsum] using this

/-- What a drawn table is known to be: of at most six rows. -/
def TabOut (p1 : Int) (x : Option (Int × Int × List Int × Int × Int)) : Prop := ∃ R C M p' h', x = some (R, C, M, p', h') ∧ M.length ≤ 6 ∧ p1 ≤ p' ∧ p' ≤ 1000
theorem table_j4 (s : List Int) (hs : s.length ≤ 1048576) (hb : ∀ x ∈ s, 0 ≤ x ∧ x < 256) (k : Nat) (hk : 0 < k) (x3 x4 p h a b : Int) (M : List Int) (h4 : 0 ≤ x4) (h0 : 0 ≤ p) (h1 : p ≤ 990) (hM0 : 1 ≤ M.length) (hM : M.length ≤ 6) : TabOut p (spec_l1Cur_table.j4 k x3 x4 s p h a b M) := by
  obtain ⟨k, rfl⟩ : ∃ m, k = m + 1 := ⟨k - 1, by omega⟩
  obtain ⟨v, p1, g1, e, e0, e1, e2, e3, e4⟩ := pick_ok s hs hb p h 24 h0 (by omega)
  rw [spec_l1Cur_table.j4, e]
  simp only [Option.bind_some]
  split
  · obtain ⟨v', p', h', z, z1, z2⟩ := among_ok s hs hb p1 g1 [(-1), 0, shl .i64 1 x4, wrap64 ((shl .i64 1 x4) - 1)] (by simp) (by omega) (by omega)
    first | rw [if_pos h4, z] | rw [z]
    simp only [Option.bind_some]
    rw [if_pos (by omega)]
    exact ⟨_, _, _, _, _, rfl, by rw [List.length_set]; exact hM, by omega, by omega⟩
  · split
    · obtain ⟨v', p', h', z, z1, z2⟩ := among_ok s hs hb p1 g1 [0, (-1), wrap64 (x3 + 1), 7] (by simp) (by omega) (by omega)
      rw [z]
      simp only [Option.bind_some]
      exact ⟨_, _, _, _, _, rfl, hM, by omega, by omega⟩
    · split
      · obtain ⟨v', p', h', z, z1, z2⟩ := among_ok s hs hb p1 g1 [0, (-1), wrap64 (x4 + 1), 7] (by simp) (by omega) (by omega)
        rw [z]
        simp only [Option.bind_some]
        exact ⟨_, _, _, _, _, rfl, hM, by omega, by omega⟩
      · split
        · obtain ⟨v', p', h', z, _, _, _, z1, z2⟩ := pick_ok s hs hb p1 g1 64 (by omega) (by omega)
          rw [z]
          simp only [Option.bind_some]
          exact ⟨_, _, _, _, _, rfl, by simp, by omega, by omega⟩
        · exact ⟨_, _, _, _, _, rfl, hM, by omega, by omega⟩
theorem table_l3 (s : List Int) (hs : s.length ≤ 1048576) (hb : ∀ x ∈ s, 0 ≤ x ∧ x < 256) (n m : Nat) (hn0 : 1 ≤ n) (hn : n ≤ 4) (hm0 : 1 ≤ m) (hm : m ≤ 4) (A : List Int) (hA : A.length = n) (hA2 : ∀ x ∈ A, 0 ≤ x ∧ x ≤ 99) : ∀ (d k i : Nat) (B : List Int) (p h : Int), B.length = i → (∀ x ∈ B, 0 ≤ x ∧ x ≤ 99) → i + d = m → 100 + d < k → 0 ≤ p → p + 2 * d ≤ 900 → TabOut p (spec_l1Cur_table.l3 k (n : Int) (m : Int) A B (i : Int) s p h) := by
  intro d
  induction d with
  | zero =>
    intro k i B p h hB hB2 hi hk h0 h1
    obtain ⟨k, rfl⟩ : ∃ m, k = m + 1 := ⟨k - 1, by omega⟩
    rw [spec_l1Cur_table.l3, if_neg (by omega)]
    have a1 : allIn A 0 99 = true := (allIn_iff A 0 99).2 hA2
    have a2 : allIn B 0 99 = true := (allIn_iff B 0 99).2 hB2
    have hAB : A.length * (B.length + 3) ≤ 6 * 9 := Nat.mul_le_mul (by omega) (by omega)
    have e : spec_TableOfScales.f k A B = some ((A.length : Int), (B.length : Int), relList A.length B.length (scP A B), true) := by
      unfold spec_TableOfScales.f
      have c1 : 1 ≤ (A.length : Int) ∧ (A.length : Int) ≤ 6 := ⟨by omega, by omega⟩
      have c2 : 1 ≤ (B.length : Int) ∧ (B.length : Int) ≤ 6 := ⟨by omega, by omega⟩
      rw [l1In_eq, decide_eq_true c1]
      simp only [Option.bind_some, if_true]
      rw [l1In_eq, decide_eq_true c2]
      simp only [Option.bind_some, if_true]
      rw [l1All_k A 0 99 (by omega) k (by omega), a1]
      simp only [Option.bind_some, if_true]
      rw [l1All_k B 0 99 (by omega) k (by omega), a2]
      simp only [Option.bind_some]
      obtain ⟨k, rfl⟩ : ∃ m, k = m + 1 := ⟨k - 1, by omega⟩
      simp only [spec_TableOfScales.j0, Bool.not_true, Bool.false_eq_true, if_false]
      exact scales_l0 A B (by omega) (by omega) A.length k 0 [] (by omega) (by omega) (by simp)
    rw [e]
    simp only [Option.bind_some]
    exact table_j4 s hs hb k (by omega) _ _ p h _ _ _ (by omega) h0 (by omega) (by rw [relList_length]; omega) (by rw [relList_length]; omega)
  | succ d ih =>
    intro k i B p h hB hB2 hi hk h0 h1
    obtain ⟨k, rfl⟩ : ∃ m, k = m + 1 := ⟨k - 1, by omega⟩
    obtain ⟨v, p1, g1, e, e0, e1, e2, e3, e4⟩ := pick_ok s hs hb p h 6 h0 (by omega)
    rw [spec_l1Cur_table.l3, if_pos (by omega), e]
    simp only [Option.bind_some]
    rw [if_pos (by omega), wrap_ok (by omega) (by omega), show ((i : Int) + 1) = ((i + 1 : Nat) : Int) by omega]
    obtain ⟨R, C, M, p', h', z, z1, z2, z3⟩ := ih k (i + 1) (B ++ [v]) p1 g1 (by simp; omega) (fun x hx => by
      rcases List.mem_append.1 hx with h | h
      · exact hB2 x h
      · have : x = v := by simpa using h
        have := e1 (by omega)
        omega) (by omega) (by omega) (by omega) (by omega)
    exact ⟨R, C, M, p', h', z, z1, by omega, z3⟩
theorem table_l2 (s : List Int) (hs : s.length ≤ 1048576) (hb : ∀ x ∈ s, 0 ≤ x ∧ x < 256) (n m : Nat) (hn0 : 1 ≤ n) (hn : n ≤ 4) (hm0 : 1 ≤ m) (hm : m ≤ 4) : ∀ (d k i : Nat) (A : List Int) (p h : Int), A.length = i → (∀ x ∈ A, 0 ≤ x ∧ x ≤ 99) → i + d = n → 110 + d < k → 0 ≤ p → p + 2 * d ≤ 880 → TabOut p (spec_l1Cur_table.l2 k (n : Int) (m : Int) A (i : Int) s p h) := by
  intro d
  induction d with
  | zero =>
    intro k i A p h hA hA2 hi hk h0 h1
    obtain ⟨k, rfl⟩ : ∃ m, k = m + 1 := ⟨k - 1, by omega⟩
    rw [spec_l1Cur_table.l2, if_neg (by omega)]
    exact table_l3 s hs hb n m hn0 hn hm0 hm A (by omega) hA2 m k 0 [] p h rfl (by simp) (by omega) (by omega) h0 (by omega)
  | succ d ih =>
    intro k i A p h hA hA2 hi hk h0 h1
    obtain ⟨k, rfl⟩ : ∃ m, k = m + 1 := ⟨k - 1, by omega⟩
    obtain ⟨v, p1, g1, e, e0, e1, e2, e3, e4⟩ := pick_ok s hs hb p h 6 h0 (by omega)
    rw [spec_l1Cur_table.l2, if_pos (by omega), e]
    simp only [Option.bind_some]
    rw [if_pos (by omega), wrap_ok (by omega) (by omega), show ((i : Int) + 1) = ((i + 1 : Nat) : Int) by omega]
    obtain ⟨R, C, M, p', h', z, z1, z2, z3⟩ := ih k (i + 1) (A ++ [v]) p1 g1 (by simp; omega) (fun x hx => by
      rcases List.mem_append.1 hx with h | h
      · exact hA2 x h
      · have : x = v := by simpa using h
        have := e1 (by omega)
        omega) (by omega) (by omega) (by omega) (by omega)
    exact ⟨R, C, M, p', h', z, z1, by omega, z3⟩
theorem dtable_l0 (s : List Int) (hs : s.length ≤ 1048576) (hb : ∀ x ∈ s, 0 ≤ x ∧ x < 256) (n m : Nat) (hn0 : 1 ≤ n) (hn : n ≤ 4) (hm0 : 1 ≤ m) (hm : m ≤ 4) (x6 : Int) : ∀ (d k i : Nat) (M : List Int) (p h : Int), M.length = i → i + d = n → 150 + d * 10 < k → 0 ≤ p → p + 20 * d ≤ 800 → TabOut p (spec_l1Cur_table.l0 k (n : Int) (m : Int) x6 (i : Int) s p h (n : Int) (m : Int) M) := by
  intro d
  induction d with
  | zero =>
    intro k i M p h hM hi hk h0 h1
    obtain ⟨k, rfl⟩ : ∃ m, k = m + 1 := ⟨k - 1, by omega⟩
    rw [spec_l1Cur_table.l0, if_neg (by omega)]
    split
    · exact table_l2 s hs hb n m hn0 hn hm0 hm n k 0 [] p h rfl (by simp) (by omega) (by omega) h0 (by omega)
    · exact table_j4 s hs hb k (by omega) _ _ p h _ _ _ (by omega) h0 (by omega) (by omega) (by omega)
  | succ d ih =>
    intro k i M p h hM hi hk h0 h1
    obtain ⟨k, rfl⟩ : ∃ m, k = m + 1 := ⟨k - 1, by omega⟩
    rw [spec_l1Cur_table.l0, if_pos (by omega)]
    have inner : ∀ (e k j : Nat) (x8 p h : Int), j + e = m → 150 + d * 10 + 1 + e < k → 0 ≤ p → p + 4 * e + 20 * d ≤ 800 → TabOut p (spec_l1Cur_table.l1 k (n : Int) (m : Int) x6 (i : Int) x8 (j : Int) s p h (n : Int) (m : Int) M) := by
      intro e
      induction e with
      | zero =>
        intro k j x8 p h hj hk h0 h1
        obtain ⟨k, rfl⟩ : ∃ m, k = m + 1 := ⟨k - 1, by omega⟩
        rw [spec_l1Cur_table.l1, if_neg (by omega), if_pos (by omega), wrap_ok (by omega) (by omega), show ((i : Int) + 1) = ((i + 1 : Nat) : Int) by omega]
        exact ih k (i + 1) _ p h (by simp; omega) (by omega) (by omega) h0 (by omega)
      | succ e ihe =>
        intro k j x8 p h hj hk h0 h1
        obtain ⟨k, rfl⟩ : ∃ m, k = m + 1 := ⟨k - 1, by omega⟩
        obtain ⟨b2, p2, g2, o2, r2, q2⟩ := one_ok s hs hb p h 2 h0 (by omega)
        obtain ⟨b4, p4, g4, o4, r4, q4⟩ := one_ok s hs hb p h 4 h0 (by omega)
        obtain ⟨b5, p5, g5, o5, r5, q5⟩ := one_ok s hs hb p2 g2 4 (by omega) (by omega)
        have next : ∀ (x' p' h' : Int), p ≤ p' → p' ≤ p + 4 → TabOut p (spec_l1Cur_table.l1 k (n : Int) (m : Int) x6 (i : Int) x' ((j + 1 : Nat) : Int) s p' h' (n : Int) (m : Int) M) := by
          intro x' p' h' h3 h4
          obtain ⟨R, C, M, p3, h3, z, z1, z2, z3⟩ := ihe k (j + 1) x' p' h' (by omega) (by omega) (by omega) (by omega)
          exact ⟨R, C, M, p3, h3, z, z1, by omega, z3⟩
        have c1 : (0 : Int) ≤ (j : Int) := Int.natCast_nonneg j
        rw [spec_l1Cur_table.l1, if_pos (by omega), wrap_ok (by omega) (by omega), show ((j : Int) + 1) = ((j + 1 : Nat) : Int) by omega]
        simp only [o2, o4, Option.bind_some, if_pos c1]
        simp only [o5, Option.bind_some]
        repeat' split
        all_goals first
          | exact next _ p h (by omega) (by omega)
          | exact next _ p2 g2 (by omega) (by omega)
          | exact next _ p4 g4 (by omega) (by omega)
          | exact next _ p5 g5 (by omega) (by omega)
    exact inner m k 0 0 p h (by omega) (by omega) h0 (by omega)
theorem table_ok (s : List Int) (hs : s.length ≤ 1048576) (hb : ∀ x ∈ s, 0 ≤ x ∧ x < 256) (k : Nat) (hk : 300 < k) : TabOut 0 (spec_l1Cur_table.f k s 0 0) := by
  unfold spec_l1Cur_table.f
  obtain ⟨v, p1, g1, e, e0, e1, e2, e3, e4⟩ := pick_ok s hs hb 0 0 4 (by omega) (by omega)
  obtain ⟨w, p2, g2, f, f0, f1, f2, f3, f4⟩ := pick_ok s hs hb p1 g1 4 (by omega) (by omega)
  obtain ⟨x, p3, g3, o, o0, o1, o2, o3, o4⟩ := pick_ok s hs hb p2 g2 3 (by omega) (by omega)
  have v4 := e1 (by omega)
  have w4 := f1 (by omega)
  rw [e]
  simp only [Option.bind_some]
  rw [f]
  simp only [Option.bind_some]
  rw [o]
  simp only [Option.bind_some]
  obtain ⟨n, rfl⟩ := Int.eq_ofNat_of_zero_le e0
  obtain ⟨m, rfl⟩ := Int.eq_ofNat_of_zero_le f0
  rw [wrap_ok (x := 1 + (n : Int)) (by omega) (by omega), wrap_ok (x := 1 + (m : Int)) (by omega) (by omega), show (1 + (n : Int)) = ((n + 1 : Nat) : Int) by omega, show (1 + (m : Int)) = ((m + 1 : Nat) : Int) by omega]
  obtain ⟨R, C, M, p', h', z, z1, z2, z3⟩ := dtable_l0 s hs hb (n + 1) (m + 1) (by omega) (by omega) (by omega) (by omega) x (n + 1) k 0 [] p3 g3 rfl (by omega) (by omega) (by omega) (by omega)
  exact ⟨R, C, M, p', h', z, z1, by omega, z3⟩
theorem vMarked_k (R : Int) (C : Nat) (ns : List Nat) (x : Nat) (hC0 : 1 ≤ C) (hC : C ≤ 6) (hx : x / C < ns.length) (hx2 : x < 1000) : laws_vMarked.f R (C : Int) (ns.map (fun (x : Nat) => (x : Int))) (x : Int) = some (mk ns (x / C) (x % C)) := by
  have t1 : Int.tmod ((x : Nat) : Int) (C : Int) = ((x % C : Nat) : Int) := rfl
  have t2 : Int.tdiv ((x : Nat) : Int) (C : Int) = ((x / C : Nat) : Int) := rfl
  have hd : x / C ≤ x := Nat.div_le_self _ _
  have hm : x % C < C := Nat.mod_lt _ (by omega)
  have lm : ((ns.map (fun (x : Nat) => (x : Int))).length : Int) = (ns.length : Int) := by simp
  unfold laws_vMarked.f
  rw [t1, t2, wrap_small _ (by omega), if_neg (by omega), if_pos (Int.natCast_nonneg (x / C)), if_pos (show ((x / C : Nat) : Int) < ((ns.map (fun (x : Nat) => (x : Int))).length : Int) by omega), if_pos (Int.natCast_nonneg (x % C)), rd_map, shr_nat _ _ (by omega), tmod_nat]
  have e2 : mk ns (x / C) (x % C) = decide ((ns.getD (x / C) 0) / 2 ^ (x % C) % 2 = 1) := Nat.testBit_eq_decide_div_mod_eq
  rw [e2]
  congr 1
  by_cases h : (ns.getD (x / C) 0) / 2 ^ (x % C) % 2 = 1
  · rw [h]; rfl
  · have h0 : (ns.getD (x / C) 0) / 2 ^ (x % C) % 2 = 0 := by omega
    rw [h0]; rfl

/-- A number put into a rising list. -/
def putI : List Int → Int → List Int
  | [], v => [v]
  | x :: l, v => if x < v then x :: putI l v else if x = v then x :: l else v :: x :: l
theorem putI_len (v : Int) : ∀ l : List Int, (putI l v).length ≤ l.length + 1
  | [] => by simp [putI]
  | x :: l => by
    have := putI_len v l
    simp only [putI]
    split
    · simp; omega
    · split
      · simp
      · simp
theorem mem_putI (v y : Int) : ∀ l : List Int, y ∈ putI l v ↔ y = v ∨ y ∈ l
  | [] => by simp [putI]
  | x :: l => by
    have := mem_putI v y l
    simp only [putI]
    split
    · rw [List.mem_cons, this, List.mem_cons]
      constructor
      · rintro (h | h | h)
        · exact .inr (.inl h)
        · exact .inl h
        · exact .inr (.inr h)
      · rintro (h | h | h)
        · exact .inr (.inl h)
        · exact .inl h
        · exact .inr (.inr h)
    · split
      · rename_i h1 h2
        subst h2
        simp
      · simp
theorem putI_up (v : Int) : ∀ l : List Int, l.Pairwise (· < ·) → (putI l v).Pairwise (· < ·)
  | [], _ => by simp [putI]
  | x :: l, h => by
    obtain ⟨h1, h2⟩ := List.pairwise_cons.1 h
    have := putI_up v l h2
    simp only [putI]
    split
    · rename_i hx
      refine List.pairwise_cons.2 ⟨fun y hy => ?_, this⟩
      rcases (mem_putI v y l).1 hy with rfl | hy
      · exact hx
      · exact h1 y hy
    · split
      · exact h
      · rename_i hx hx2
        refine List.pairwise_cons.2 ⟨fun y hy => ?_, h⟩
        rcases List.mem_cons.1 hy with rfl | hy
        · omega
        · have := h1 y hy
          omega
theorem l1Put_l0 (l : List Int) (v : Int) (hl : l.length ≤ 1000) : ∀ (d k i : Nat), i + d = l.length → d < k → spec_l1Put.l0 k l v (i : Int) = some (l.take i ++ putI (l.drop i) v) := by
  intro d
  induction d with
  | zero =>
    intro k i hi hk
    obtain ⟨k, rfl⟩ : ∃ m, k = m + 1 := ⟨k - 1, by omega⟩
    have e2 : ((i : Int)).toNat = i := by omega
    have e : i = l.length := by omega
    rw [spec_l1Put.l0, if_neg (by omega)]
    simp only [Option.bind_some, e2, List.nil_append, List.length_nil, Nat.zero_add]
    rw [if_pos (by omega), if_pos (by omega), if_pos (by rw [List.length_take]; omega), if_pos (by rw [List.length_take]; omega), if_pos (by rw [List.length_append, List.length_take, List.length_drop]; simp; omega)]
    subst e
    simp [putI]
  | succ d ih =>
    intro k i hi hk
    obtain ⟨k, rfl⟩ : ∃ m, k = m + 1 := ⟨k - 1, by omega⟩
    have e2 : ((i : Int)).toNat = i := by omega
    have hil : i < l.length := by omega
    have hdr : l.drop i = l[i] :: l.drop (i + 1) := List.drop_eq_getElem_cons hil
    have hrd : rd l (i : Int) = l[i] := by rw [rd_nat, List.getD_eq_getElem?_getD, List.getElem?_eq_getElem hil]; rfl
    rw [spec_l1Put.l0, if_pos (by omega), if_pos (by omega), hrd]
    by_cases h1 : l[i] < v
    · rw [if_pos h1, wrap_ok (by omega) (by omega), show ((i : Int) + 1) = ((i + 1 : Nat) : Int) by omega, ih k (i + 1) (by omega) (by omega), hdr]
      simp only [putI, if_pos h1]
      rw [List.take_add_one, List.getElem?_eq_getElem hil, Option.toList_some, List.append_assoc]
      rfl
    · rw [if_neg h1]
      by_cases h2 : l[i] = v
      · rw [if_pos h2, hdr]
        simp only [putI, if_neg h1, if_pos h2]
        rw [← hdr, List.take_append_drop]
      · rw [if_neg h2]
        simp only [Option.bind_some, e2, List.nil_append, List.length_nil, Nat.zero_add]
        rw [if_pos (by omega), if_pos (by rw [List.length_take]; omega), if_pos (by rw [List.length_take]; omega), if_pos (by rw [List.length_append, List.length_take, List.length_drop]; simp; omega), hdr]
        simp only [putI, if_neg h1, if_neg h2]
        simp
theorem l1Put_k (l : List Int) (v : Int) (hl : l.length ≤ 1000) (k : Nat) (hk : l.length < k) : spec_l1Put.f k l v = some (putI l v) := by
  unfold spec_l1Put.f
  have := l1Put_l0 l v hl l.length k 0 (by omega) hk
  simpa using this
/-- What slices.Compact leaves of a row that is sorted. -/
theorem compact_up (d : Array Int) (hs : ∀ j, 0 < j → j < d.size → d[j - 1]! ≤ d[j]!) : ∀ m, m ≤ d.size → (Lib.compactUpTo d m).Pairwise (· < ·) ∧ (∀ y, y ∈ Lib.compactUpTo d m ↔ ∃ j, j < m ∧ d[j]! = y) ∧ (∀ j, j < m → d[j]! ≤ d[m - 1]!) := by
  intro m
  induction m with
  | zero =>
    intro _
    refine ⟨by simp [Lib.compactUpTo], fun y => ?_, fun j hj => by omega⟩
    simp [Lib.compactUpTo]
  | succ m ih =>
    intro hm
    obtain ⟨i1, i2, i3⟩ := ih (by omega)
    have top : ∀ j, j < m → d[j]! ≤ d[m]! := fun j hj => Int.le_trans (i3 j hj) (hs m (by omega) (by omega))
    have top2 : ∀ j, j < m + 1 → d[j]! ≤ d[m + 1 - 1]! := by
      intro j hj
      rw [Nat.add_sub_cancel]
      by_cases e : j = m
      · rw [e]; exact Int.le_refl _
      · exact top j (by omega)
    rw [Lib.compactUpTo_succ]
    cases hk : Lib.keeps d m
    · have hk2 : ¬ (m = 0 ∨ d[m]! ≠ d[m - 1]!) := of_decide_eq_false hk
      have hm0 : m ≠ 0 := fun h => hk2 (.inl h)
      have he : d[m]! = d[m - 1]! := Classical.byContradiction fun h => hk2 (.inr h)
      simp only [Bool.false_eq_true, if_false, List.append_nil]
      refine ⟨i1, fun y => ?_, top2⟩
      rw [i2]
      constructor
      · rintro ⟨j, hj, h⟩
        exact ⟨j, by omega, h⟩
      · rintro ⟨j, hj, h⟩
        by_cases e : j = m
        · subst e
          exact ⟨j - 1, by omega, by rw [← he]; exact h⟩
        · exact ⟨j, by omega, h⟩
    · have hk2 : m = 0 ∨ d[m]! ≠ d[m - 1]! := of_decide_eq_true hk
      simp only [if_true]
      refine ⟨?_, fun y => ?_, top2⟩
      · rw [List.pairwise_append]
        refine ⟨i1, by simp, fun a ha b hb => ?_⟩
        obtain rfl := List.mem_singleton.1 hb
        obtain ⟨j, hj, rfl⟩ := (i2 a).1 ha
        rcases hk2 with h0 | hne
        · omega
        · have h1 := i3 j hj
          have h2 := hs m (by omega) (by omega)
          omega
      · rw [List.mem_append, i2, List.mem_singleton]
        constructor
        · rintro (⟨j, hj, h⟩ | h)
          · exact ⟨j, by omega, h⟩
          · exact ⟨m, by omega, h.symm⟩
        · rintro ⟨j, hj, h⟩
          by_cases e : j = m
          · subst e; exact .inr h.symm
          · exact .inl ⟨j, by omega, h⟩
def distinct (M : List Int) : List Int := Lib.compact (M.mergeSort fun x y => decide (x ≤ y))
theorem distinct_up (M : List Int) : (distinct M).Pairwise (· < ·) ∧ ∀ y, y ∈ distinct M ↔ y ∈ M := by
  have hp : (M.mergeSort fun x y => decide (x ≤ y)).Pairwise (fun a b => decide (a ≤ b) = true) := List.pairwise_mergeSort (fun a b c h1 h2 => by simp only [decide_eq_true_eq] at *; omega) (fun a b => by simp only [Bool.or_eq_true, decide_eq_true_eq]; omega) M
  have hm : ∀ y, y ∈ (M.mergeSort fun x y => decide (x ≤ y)) ↔ y ∈ M := fun y => List.mem_mergeSort
  unfold distinct Lib.compact
  generalize (M.mergeSort fun x y => decide (x ≤ y)) = S at hp hm
  have gt : ∀ j (hj : j < S.length), S.toArray[j]! = S[j] := fun j hj => by rw [getElem!_pos S.toArray j (by simpa using hj)]; rfl
  obtain ⟨a, b, _⟩ := compact_up S.toArray (fun j h0 hj => by
    have hj' : j < S.length := by simpa using hj
    rw [gt j hj', gt (j - 1) (by omega)]
    have := List.pairwise_iff_getElem.1 hp (j - 1) j (by omega) hj' (by omega)
    simpa using this) S.length (by simp)
  refine ⟨a, fun y => ?_⟩
  rw [b, ← hm]
  constructor
  · rintro ⟨j, hj, h⟩
    rw [gt j hj] at h
    rw [← h]
    exact List.getElem_mem _
  · intro h
    obtain ⟨j, hj, h⟩ := List.mem_iff_getElem.1 h
    exact ⟨j, hj, by rw [gt j hj]; exact h⟩
/-- Two rising lists with the same numbers are one. -/
theorem rising_one : ∀ a b : List Int, a.Pairwise (· < ·) → b.Pairwise (· < ·) → (∀ y, y ∈ a ↔ y ∈ b) → a = b
  | [], [], _, _, _ => rfl
  | [], y :: b, _, _, h => absurd ((h y).2 List.mem_cons_self) (by simp)
  | x :: a, [], _, _, h => absurd ((h x).1 List.mem_cons_self) (by simp)
  | x :: a, y :: b, ha, hb, h => by
    obtain ⟨a1, a2⟩ := List.pairwise_cons.1 ha
    obtain ⟨b1, b2⟩ := List.pairwise_cons.1 hb
    have e : x = y := by
      rcases List.mem_cons.1 ((h x).1 List.mem_cons_self) with e | hx
      · exact e
      · rcases List.mem_cons.1 ((h y).2 List.mem_cons_self) with e | hy
        · exact e.symm
        · have := b1 x hx
          have := a1 y hy
          omega
    subst e
    congr 1
    refine rising_one a b a2 b2 (fun z => ?_)
    have hz := h z
    rw [List.mem_cons, List.mem_cons] at hz
    constructor
    · intro hza
      rcases hz.1 (.inr hza) with e | h
      · have := a1 z hza; omega
      · exact h
    · intro hzb
      rcases hz.2 (.inr hzb) with e | h
      · have := b1 z hzb; omega
      · exact h
/-- A row that is another, and lies in x. -/
def stP (x v : Int) : Bool := decide (v ≠ x) && decide (Go.bits .andNot .i64 v x = 0)
def hiN (M : List Int) (x : Int) : Nat := ((distinct M).filter (stP x)).length
def putF (x : Int) : List Int → List Int → List Int
  | a, [] => a
  | a, v :: l => putF x (if stP x v = true then putI a v else a) l
theorem putF_all (x : Int) : ∀ (l a : List Int), a.Pairwise (· < ·) → (putF x a l).Pairwise (· < ·) ∧ ∀ y, y ∈ putF x a l ↔ y ∈ a ∨ (y ∈ l ∧ stP x y = true)
  | [], a, h => ⟨h, fun y => by simp [putF]⟩
  | v :: l, a, h => by
    simp only [putF]
    by_cases hv : stP x v = true
    · rw [if_pos hv]
      obtain ⟨q1, q2⟩ := putF_all x l (putI a v) (putI_up v a h)
      refine ⟨q1, fun y => ?_⟩
      rw [q2, mem_putI, List.mem_cons]
      constructor
      · rintro ((rfl | h) | ⟨h, h'⟩)
        · exact .inr ⟨.inl rfl, hv⟩
        · exact .inl h
        · exact .inr ⟨.inr h, h'⟩
      · rintro (h | ⟨rfl | h, h'⟩)
        · exact .inl (.inr h)
        · exact .inl (.inl rfl)
        · exact .inr ⟨h, h'⟩
    · rw [if_neg hv]
      obtain ⟨q1, q2⟩ := putF_all x l a h
      refine ⟨q1, fun y => ?_⟩
      rw [q2, List.mem_cons]
      constructor
      · rintro (h | ⟨h, h'⟩)
        · exact .inl h
        · exact .inr ⟨.inr h, h'⟩
      · rintro (h | ⟨rfl | h, h'⟩)
        · exact .inl h
        · exact absurd h' hv
        · exact .inr ⟨h, h'⟩
theorem putF_hi (M : List Int) (x : Int) : (putF x [] M).length = hiN M x := by
  obtain ⟨a1, a2⟩ := putF_all x M [] List.Pairwise.nil
  obtain ⟨b1, b2⟩ := distinct_up M
  unfold hiN
  rw [rising_one _ ((distinct M).filter (stP x)) a1 (b1.filter _) (fun y => by rw [a2, List.mem_filter, b2]; simp)]
def mxI (a b : Int) : Int := if a > b then a else b
def mxL (H : List Int) : Int := H.foldl mxI 0
theorem mxL_snoc (H : List Int) (n : Int) : mxL (H ++ [n]) = mxI (mxL H) n := by simp [mxL, List.foldl_append]
theorem mxL_b (b : Int) : ∀ (H : List Int), (∀ x ∈ H, x ≤ b) → ∀ a : Int, 0 ≤ a → a ≤ b → 0 ≤ H.foldl mxI a ∧ H.foldl mxI a ≤ b
  | [], _, a, h0, h1 => ⟨h0, h1⟩
  | x :: H, h, a, h0, h1 => by
    have hx := h x List.mem_cons_self
    rw [List.foldl_cons]
    refine mxL_b b H (fun y hy => h y (List.mem_cons_of_mem _ hy)) _ ?_ ?_
    · unfold mxI; split <;> omega
    · unfold mxI; split <;> omega
theorem maxOf_mxL (H : List Int) (h0 : ∀ x ∈ H, 0 ≤ x) : Lib.maxOf H = mxL H := by
  have e : mxI = (max : Int → Int → Int) := by
    funext a b
    unfold mxI
    split <;> omega
  unfold Lib.maxOf mxL
  rw [e]
  cases H with
  | nil => rfl
  | cons x H =>
    have := h0 x List.mem_cons_self
    simp only [List.headD_cons, List.foldl_cons]
    rw [show max x x = x by omega, show max (0 : Int) x = x by omega]
/-- The numbers of the rows. -/
def highs (M : List Int) (i : Nat) : List Int := (M.take i).map fun x => ((hiN M x : Nat) : Int)
theorem highs_succ (M : List Int) (i : Nat) (hi : i < M.length) : highs M (i + 1) = highs M i ++ [((hiN M (M[i]) : Nat) : Int)] := by
  unfold highs
  rw [List.take_add_one, List.getElem?_eq_getElem hi, Option.toList_some, List.map_append]
  rfl
theorem highs_len (M : List Int) (i : Nat) : (highs M i).length ≤ M.length := by simp [highs]; omega
theorem distinct_len (M : List Int) : (distinct M).length ≤ M.length := by
  unfold distinct Lib.compact Lib.compactUpTo
  rw [List.length_map]
  exact Nat.le_trans (List.length_filter_le _ _) (by simp)
theorem hiN_le (M : List Int) (x : Int) : hiN M x ≤ M.length := Nat.le_trans (List.length_filter_le _ _) (distinct_len M)
def lowF (ms : List Nat) (H : List Int) (c : Nat) : Nat → Nat → Int → Int
  | _, 0, a => a
  | i, d + 1, a => lowF ms H c (i + 1) d (if (ms.getD i 0).testBit c = true then (if a < H.getD i 0 then a else H.getD i 0) else a)
def lows (ms : List Nat) (H : List Int) (m : Int) (c : Nat) : List Int := (List.range c).map fun j => lowF ms H j 0 ms.length m
theorem lows_succ (ms : List Nat) (H : List Int) (m : Int) (c : Nat) : lows ms H m (c + 1) = lows ms H m c ++ [lowF ms H c 0 ms.length m] := by simp [lows, List.range_succ]
theorem lows_len (ms : List Nat) (H : List Int) (m : Int) (c : Nat) : (lows ms H m c).length = c := by simp [lows]
/-- The reference: a row's number. -/
theorem ssp_in (M : List Int) (hM : M.length ≤ 6) (x5 : Int) (H : List Int) (hH : H.length ≤ 100) (x : Int) (i : Nat) (hi : i < 100) (R C : Int) (fin : Option (List Int × List Int × Bool)) (K0 : Nat) (L : List Int)
    (hfin : ∀ k, K0 < k → spec_ScalesOf.l0 k (mxI x5 (L.length : Int)) (H ++ [(L.length : Int)]) M (M.length : Int) ((i + 1 : Nat) : Int) R C M = fin) :
    ∀ (d k j : Nat) (a : List Int), j + d = M.length → a.length + d ≤ 6 → K0 + 20 + d < k → putF x a (M.drop j) = L → spec_ScalesOf.l1 k x5 H x a M (M.length : Int) (i : Int) M (M.length : Int) (j : Int) R C M = fin := by
  intro d
  induction d with
  | zero =>
    intro k j a hj ha hk hL
    obtain ⟨k, rfl⟩ : ∃ m, k = m + 1 := ⟨k - 1, by omega⟩
    have e : M.drop j = [] := List.drop_eq_nil_of_le (by omega)
    rw [e] at hL
    simp only [putF] at hL
    subst hL
    rw [spec_ScalesOf.l1, if_neg (by omega), if_pos (by omega)]
    unfold spec_l1Most.f
    have hf := hfin k (by omega)
    unfold mxI at hf
    rw [wrap_ok (by omega) (by omega), show ((i : Int) + 1) = ((i + 1 : Nat) : Int) by omega]
    by_cases hx : x5 > (a.length : Int)
    · rw [if_pos hx] at hf ⊢
      exact hf
    · rw [if_neg hx] at hf ⊢
      exact hf
  | succ d ih =>
    intro k j a hj ha hk hL
    obtain ⟨k, rfl⟩ : ∃ m, k = m + 1 := ⟨k - 1, by omega⟩
    have hjl : j < M.length := by omega
    have hrd : rd M (j : Int) = M[j] := by rw [rd_nat, List.getD_eq_getElem?_getD, List.getElem?_eq_getElem hjl]; rfl
    have hdr : M.drop j = M[j] :: M.drop (j + 1) := List.drop_eq_getElem_cons hjl
    rw [hdr] at hL
    simp only [putF] at hL
    rw [spec_ScalesOf.l1, if_pos (by omega), if_pos (by omega), if_pos (by omega), hrd, wrap_ok (by omega) (by omega), show ((j : Int) + 1) = ((j + 1 : Nat) : Int) by omega]
    by_cases h1 : M[j] = x
    · have hs : stP x M[j] = false := by unfold stP; rw [decide_eq_false (not_not_intro h1)]; rfl
      rw [hs] at hL
      rw [if_pos h1]
      exact ih k (j + 1) a (by omega) (by omega) (by omega) (by simpa using hL)
    · rw [if_neg h1]
      by_cases h2 : Go.bits .andNot .i64 M[j] x = 0
      · have hs : stP x M[j] = true := by unfold stP; rw [decide_eq_true h1, decide_eq_true h2]; rfl
        rw [hs, if_pos rfl] at hL
        have := putI_len M[j] a
        rw [if_pos h2, l1Put_k a _ (by omega) k (by omega)]
        exact ih k (j + 1) (putI a M[j]) (by omega) (by omega) (by omega) hL
      · have hs : stP x M[j] = false := by unfold stP; rw [decide_eq_false h2, Bool.and_false]
        rw [hs] at hL
        rw [if_neg h2]
        exact ih k (j + 1) a (by omega) (by omega) (by omega) (by simpa using hL)
theorem ssp_out (M : List Int) (hM : M.length ≤ 6) (R C : Int) (fin : Option (List Int × List Int × Bool)) (K0 : Nat)
    (hfin : ∀ k, K0 < k → spec_ScalesOf.l2 k (mxL (highs M M.length)) (highs M M.length) [] 0 R C M = fin) :
    ∀ (d k i : Nat), i + d = M.length → K0 + d * 40 + 1 < k → spec_ScalesOf.l0 k (mxL (highs M i)) (highs M i) M (M.length : Int) (i : Int) R C M = fin := by
  intro d
  induction d with
  | zero =>
    intro k i hi hk
    obtain ⟨k, rfl⟩ : ∃ m, k = m + 1 := ⟨k - 1, by omega⟩
    have e : i = M.length := by omega
    subst e
    rw [spec_ScalesOf.l0, if_neg (by omega)]
    exact hfin k (by omega)
  | succ d ih =>
    intro k i hi hk
    obtain ⟨k, rfl⟩ : ∃ m, k = m + 1 := ⟨k - 1, by omega⟩
    have hil : i < M.length := by omega
    have hrd : rd M (i : Int) = M[i] := by rw [rd_nat, List.getD_eq_getElem?_getD, List.getElem?_eq_getElem hil]; rfl
    rw [spec_ScalesOf.l0, if_pos (by omega), if_pos (by omega), if_pos (by omega), hrd]
    have hh := highs_len M i
    have := ssp_in M hM (mxL (highs M i)) (highs M i) (by omega) M[i] i (by omega) R C fin (K0 + d * 40 + 1) (putF M[i] [] M) (fun k hk => by
      rw [putF_hi, ← mxL_snoc, ← highs_succ M i hil]
      exact ih k (i + 1) (by omega) hk) M.length k 0 [] (by omega) (by simp; omega) (by omega) (by simp)
    exact this
theorem ssp_l3 (ms : List Nat) (hm : ms.length ≤ 6) (h64 : ∀ x ∈ ms, x < 64) (H : List Int) (hH : H.length = ms.length) (x5 : Int) (out : List Int) (ho : out.length ≤ 100) (c : Nat) (hc : c < 60) (R C : Int) (fin : Option (List Int × List Int × Bool)) (K0 : Nat) (L : Int)
    (hfin : ∀ k, K0 < k → spec_ScalesOf.l2 k x5 H (out ++ [L]) ((c + 1 : Nat) : Int) R C (asInts ms) = fin) :
    ∀ (d k i : Nat) (a : Int), i + d = ms.length → K0 + 2 + d < k → lowF ms H c i d a = L → spec_ScalesOf.l3 k x5 H out (c : Int) a (asInts ms) (ms.length : Int) (i : Int) R C (asInts ms) = fin := by
  intro d
  induction d with
  | zero =>
    intro k i a hi hk hL
    obtain ⟨k, rfl⟩ : ∃ m, k = m + 1 := ⟨k - 1, by omega⟩
    simp only [lowF] at hL
    subst hL
    rw [spec_ScalesOf.l3, if_neg (by omega), if_pos (by omega), wrap_ok (by omega) (by omega), show ((c : Int) + 1) = ((c + 1 : Nat) : Int) by omega]
    exact hfin k (by omega)
  | succ d ih =>
    intro k i a hi hk hL
    obtain ⟨k, rfl⟩ : ∃ m, k = m + 1 := ⟨k - 1, by omega⟩
    have l1 : ((asInts ms).length : Int) = (ms.length : Int) := by simp
    have b1 := getD_lt (b := 64) (by omega) h64 i
    simp only [lowF] at hL
    have next := ih k (i + 1) _ (by omega) (by omega) hL
    rw [spec_ScalesOf.l3, if_pos (by omega), if_pos (by omega), if_pos (by omega), rd_map, orHas_k _ c (by omega), wrap_ok (by omega) (by omega), show ((i : Int) + 1) = ((i + 1 : Nat) : Int) by omega]
    simp only [Option.bind_some]
    by_cases hb : (ms.getD i 0).testBit c = true
    · rw [if_pos hb] at next ⊢
      rw [if_pos (by omega), rd_nat]
      unfold spec_l1Least.f
      by_cases ha : a < H.getD i 0
      · rw [if_pos ha] at next ⊢
        exact next
      · rw [if_neg ha] at next ⊢
        exact next
    · rw [if_neg hb] at next ⊢
      exact next
theorem ssp_l2 (ms : List Nat) (hm : ms.length ≤ 6) (h64 : ∀ x ∈ ms, x < 64) (H : List Int) (hH : H.length = ms.length) (x5 : Int) (hx0 : 0 ≤ x5) (hx1 : x5 ≤ 100) (R : Int) (C : Nat) (hC : C ≤ 6) :
    ∀ (d k c : Nat), c + d = C → 20 + d * 20 < k → spec_ScalesOf.l2 k x5 H (lows ms H (x5 + 1) c) (c : Int) R (C : Int) (asInts ms) = some (H, lows ms H (x5 + 1) C, true) := by
  intro d
  induction d with
  | zero =>
    intro k c hc hk
    obtain ⟨k, rfl⟩ : ∃ m, k = m + 1 := ⟨k - 1, by omega⟩
    have e : c = C := by omega
    subst e
    rw [spec_ScalesOf.l2, if_neg (by omega)]
  | succ d ih =>
    intro k c hc hk
    obtain ⟨k, rfl⟩ : ∃ m, k = m + 1 := ⟨k - 1, by omega⟩
    have l1 : ((asInts ms).length : Int) = (ms.length : Int) := by simp
    rw [spec_ScalesOf.l2, if_pos (by omega), wrap_ok (x := x5 + 1) (by omega) (by omega), l1]
    refine ssp_l3 ms hm h64 H hH x5 (lows ms H (x5 + 1) c) (by rw [lows_len]; omega) c (by omega) R (C : Int) _ (20 + d * 20) _ (fun k hk => ?_) ms.length k 0 (x5 + 1) (by omega) (by omega) rfl
    rw [← lows_succ]
    exact ih k (c + 1) (by omega) hk
/-- What the table tells, in numbers. -/
def scalesN (ms : List Nat) (C : Nat) : List Int × List Int × Bool := (highs (asInts ms) ms.length, lows ms (highs (asInts ms) ms.length) (mxL (highs (asInts ms) ms.length) + 1) C, true)
theorem highs_b (ms : List Nat) (hm : ms.length ≤ 6) : 0 ≤ mxL (highs (asInts ms) ms.length) ∧ mxL (highs (asInts ms) ms.length) ≤ 6 := by
  refine mxL_b 6 _ (fun x hx => ?_) 0 (by omega) (by omega)
  obtain ⟨v, _, rfl⟩ := List.mem_map.1 hx
  have := hiN_le (asInts ms) v
  simp only [List.length_map] at this
  omega
theorem highs_full (ms : List Nat) : (highs (asInts ms) ms.length).length = ms.length := by simp [highs]
theorem spScales_k (R : Int) (C : Nat) (hC : C ≤ 6) (ms : List Nat) (hm : ms.length ≤ 6) (h64 : ∀ x ∈ ms, x < 64) (k : Nat) (hk : 600 < k) : spec_ScalesOf.j0 k false R (C : Int) (asInts ms) = some (scalesN ms C) := by
  obtain ⟨k, rfl⟩ : ∃ m, k = m + 1 := ⟨k - 1, by omega⟩
  obtain ⟨b0, b1⟩ := highs_b ms hm
  have l1 : (asInts ms).length = ms.length := by simp
  rw [spec_ScalesOf.j0, if_neg (by simp)]
  refine ssp_out (asInts ms) (by omega) R (C : Int) _ 200 (fun k hk => ?_) ms.length k 0 (by simp) (by omega)
  rw [l1]
  exact ssp_l2 ms hm h64 _ (highs_full ms) _ b0 (by omega) R C hC C k 0 (by omega) (by omega)
/-- The program's count. -/
theorem im_in (M D : List Int) (hD : distinct M = D) (hDl : D.length ≤ 6) (H : List Int) (hH : H.length ≤ 100) (x : Int) (i : Nat) (hi : i < 100) (R C : Int) (fin : Option (List Int × List Int × Bool)) (K0 : Nat) (L : Nat)
    (hfin : ∀ k, K0 < k → impl_ScalesOf.l0 k (H ++ [(L : Int)]) [] M (M.length : Int) ((i + 1 : Nat) : Int) R C M = fin) :
    ∀ (d k j n : Nat), j + d = D.length → n ≤ 100 - d → K0 + 2 + d < k → n + ((D.drop j).filter (stP x)).length = L → impl_ScalesOf.l1 k H [] x (n : Int) M (M.length : Int) (i : Int) D (D.length : Int) (j : Int) R C M = fin := by
  intro d
  induction d with
  | zero =>
    intro k j n hj hn hk hL
    obtain ⟨k, rfl⟩ : ∃ m, k = m + 1 := ⟨k - 1, by omega⟩
    have e : D.drop j = [] := List.drop_eq_nil_of_le (by omega)
    rw [e] at hL
    have e2 : n = L := by simpa using hL
    subst e2
    rw [impl_ScalesOf.l1, if_neg (by omega), if_pos (by omega), wrap_ok (by omega) (by omega), show ((i : Int) + 1) = ((i + 1 : Nat) : Int) by omega]
    exact hfin k (by omega)
  | succ d ih =>
    intro k j n hj hn hk hL
    obtain ⟨k, rfl⟩ : ∃ m, k = m + 1 := ⟨k - 1, by omega⟩
    have hjl : j < D.length := by omega
    have hrd : rd D (j : Int) = D[j] := by rw [rd_nat, List.getD_eq_getElem?_getD, List.getElem?_eq_getElem hjl]; rfl
    have hdr : D.drop j = D[j] :: D.drop (j + 1) := List.drop_eq_getElem_cons hjl
    rw [hdr, List.filter_cons] at hL
    rw [impl_ScalesOf.l1, if_pos (by omega), if_pos (by omega), if_pos (by omega), hrd, wrap_ok (x := (j : Int) + 1) (by omega) (by omega), show ((j : Int) + 1) = ((j + 1 : Nat) : Int) by omega]
    by_cases h1 : D[j] = x
    · have hs : stP x D[j] = false := by unfold stP; rw [decide_eq_false (not_not_intro h1)]; rfl
      rw [hs] at hL
      rw [if_pos h1]
      exact ih k (j + 1) n (by omega) (by omega) (by omega) (by simpa using hL)
    · rw [if_neg h1]
      by_cases h2 : Go.bits .andNot .i64 D[j] x = 0
      · have hs : stP x D[j] = true := by unfold stP; rw [decide_eq_true h1, decide_eq_true h2]; rfl
        rw [hs, if_pos rfl, List.length_cons] at hL
        rw [if_pos h2, wrap_ok (by omega) (by omega), show ((n : Int) + 1) = ((n + 1 : Nat) : Int) by omega]
        exact ih k (j + 1) (n + 1) (by omega) (by omega) (by omega) (by omega)
      · have hs : stP x D[j] = false := by unfold stP; rw [decide_eq_false h2, Bool.and_false]
        rw [hs] at hL
        rw [if_neg h2]
        exact ih k (j + 1) n (by omega) (by omega) (by omega) (by simpa using hL)
theorem im_out (M : List Int) (hM : M.length ≤ 6) (R C : Int) (fin : Option (List Int × List Int × Bool)) (K0 : Nat)
    (hfin : ∀ k, K0 < k → impl_ScalesOf.l2 k (highs M M.length) [] C 0 R C M = fin) :
    ∀ (d k i : Nat), i + d = M.length → K0 + d * 40 + 1 < k → impl_ScalesOf.l0 k (highs M i) [] M (M.length : Int) (i : Int) R C M = fin := by
  intro d
  induction d with
  | zero =>
    intro k i hi hk
    obtain ⟨k, rfl⟩ : ∃ m, k = m + 1 := ⟨k - 1, by omega⟩
    have e : i = M.length := by omega
    subst e
    rw [impl_ScalesOf.l0, if_neg (by omega)]
    exact hfin k (by omega)
  | succ d ih =>
    intro k i hi hk
    obtain ⟨k, rfl⟩ : ∃ m, k = m + 1 := ⟨k - 1, by omega⟩
    have hil : i < M.length := by omega
    have hrd : rd M (i : Int) = M[i] := by rw [rd_nat, List.getD_eq_getElem?_getD, List.getElem?_eq_getElem hil]; rfl
    have hdl := distinct_len M
    have hd : impl_different.f M = some (distinct M) := by unfold impl_different.f; rw [if_pos (by omega)]; rfl
    rw [impl_ScalesOf.l0, if_pos (by omega), if_pos (by omega), if_pos (by omega), hrd, hd]
    simp only [Option.bind_some]
    have hh := highs_len M i
    have := im_in M (distinct M) rfl (by omega) (highs M i) (by omega) M[i] i (by omega) R C fin (K0 + d * 40 + 1) (hiN M M[i]) (fun k hk => by
      rw [← highs_succ M i hil]
      exact ih k (i + 1) (by omega) hk) (distinct M).length k 0 0 (by omega) (by omega) (by omega) (by simp [hiN])
    exact this
theorem im_l3 (ms : List Nat) (hm : ms.length ≤ 6) (h64 : ∀ x ∈ ms, x < 64) (H : List Int) (hH : H.length = ms.length) (out : List Int) (ho : out.length ≤ 100) (c : Nat) (hc : c < 60) (C' : Int) (R C : Int) (fin : Option (List Int × List Int × Bool)) (K0 : Nat) (L : Int)
    (hfin : ∀ k, K0 < k → impl_ScalesOf.l2 k H (out ++ [L]) C' ((c + 1 : Nat) : Int) R C (asInts ms) = fin) :
    ∀ (d k i : Nat) (a : Int), i + d = ms.length → K0 + 2 + d < k → lowF ms H c i d a = L → impl_ScalesOf.l3 k H out (c : Int) a C' (c : Int) H (H.length : Int) (i : Int) R C (asInts ms) = fin := by
  intro d
  induction d with
  | zero =>
    intro k i a hi hk hL
    obtain ⟨k, rfl⟩ : ∃ m, k = m + 1 := ⟨k - 1, by omega⟩
    simp only [lowF] at hL
    subst hL
    rw [impl_ScalesOf.l3, if_neg (by omega), if_pos (by omega), wrap_ok (by omega) (by omega), show ((c : Int) + 1) = ((c + 1 : Nat) : Int) by omega]
    exact hfin k (by omega)
  | succ d ih =>
    intro k i a hi hk hL
    obtain ⟨k, rfl⟩ : ∃ m, k = m + 1 := ⟨k - 1, by omega⟩
    have b1 := getD_lt (b := 64) (by omega) h64 i
    simp only [lowF] at hL
    have next := ih k (i + 1) _ (by omega) (by omega) hL
    have hmk : mk ms i c = (ms.getD i 0).testBit c := rfl
    rw [impl_ScalesOf.l3, if_pos (by omega), if_pos (by omega), if_pos (by omega), marked_k R C ms i c h64 (by omega) hc, wrap_ok (by omega) (by omega), show ((i : Int) + 1) = ((i + 1 : Nat) : Int) by omega]
    simp only [Option.bind_some]
    rw [hmk]
    by_cases hb : (ms.getD i 0).testBit c = true
    · rw [if_pos hb] at next ⊢
      rw [rd_nat]
      have em : mn a (H.getD i 0) = if a < H.getD i 0 then a else H.getD i 0 := by
        unfold mn
        split <;> split <;> omega
      rw [em]
      exact next
    · rw [if_neg hb] at next ⊢
      exact next
theorem im_l2 (ms : List Nat) (hm : ms.length ≤ 6) (hm1 : 1 ≤ ms.length) (h64 : ∀ x ∈ ms, x < 64) (R : Int) (C : Nat) (hC : C ≤ 6) :
    ∀ (d k c : Nat), c + d = C → 20 + d * 20 < k → impl_ScalesOf.l2 k (highs (asInts ms) ms.length) (lows ms (highs (asInts ms) ms.length) (mxL (highs (asInts ms) ms.length) + 1) c) (C : Int) (c : Int) R (C : Int) (asInts ms) = some (scalesN ms C) := by
  obtain ⟨b0, b1⟩ := highs_b ms hm
  have hf := highs_full ms
  have hmax : slices_Max_int_int.f (highs (asInts ms) ms.length) = some (mxL (highs (asInts ms) ms.length)) := by
    unfold slices_Max_int_int.f
    rw [if_pos (by omega), maxOf_mxL _ (fun x hx => by
      obtain ⟨v, _, rfl⟩ := List.mem_map.1 hx
      exact Int.natCast_nonneg _)]
  intro d
  induction d with
  | zero =>
    intro k c hc hk
    obtain ⟨k, rfl⟩ : ∃ m, k = m + 1 := ⟨k - 1, by omega⟩
    have e : c = C := by omega
    subst e
    rw [impl_ScalesOf.l2, if_neg (by omega)]
    rfl
  | succ d ih =>
    intro k c hc hk
    obtain ⟨k, rfl⟩ : ∃ m, k = m + 1 := ⟨k - 1, by omega⟩
    rw [impl_ScalesOf.l2, if_pos (by omega), hmax]
    simp only [Option.bind_some]
    rw [wrap_ok (x := mxL (highs (asInts ms) ms.length) + 1) (by omega) (by omega)]
    refine im_l3 ms hm h64 _ hf (lows ms (highs (asInts ms) ms.length) (mxL (highs (asInts ms) ms.length) + 1) c) (by rw [lows_len]; omega) c (by omega) (C : Int) R (C : Int) _ (20 + d * 20) _ (fun k hk => ?_) ms.length k 0 _ (by omega) (by omega) rfl
    rw [← lows_succ]
    exact ih k (c + 1) (by omega) hk
theorem imScales_k (R C : Nat) (hC : C ≤ 6) (ms : List Nat) (hm : ms.length ≤ 6) (hm1 : 1 ≤ ms.length) (h64 : ∀ x ∈ ms, x < 64) (k : Nat) (hk : 600 < k) : impl_ScalesOf.j0 k false (R : Int) (C : Int) (asInts ms) = some (scalesN ms C) := by
  obtain ⟨k, rfl⟩ : ∃ m, k = m + 1 := ⟨k - 1, by omega⟩
  have l1 : (asInts ms).length = ms.length := by simp
  rw [impl_ScalesOf.j0, if_neg (by simp)]
  refine im_out (asInts ms) (by omega) (R : Int) (C : Int) _ 200 (fun k hk => ?_) ms.length k 0 (by simp) (by omega)
  rw [l1]
  exact im_l2 ms hm hm1 h64 (R : Int) C hC C k 0 (by omega) (by omega)

theorem four0_none (R C : Nat) (ms : List Nat) (h : ∀ r s c d, r < R → s < R → four ms r c s d = false) : four0 R C ms = none := by
  unfold four0
  rw [fs_none]
  intro r hr
  unfold four1
  rw [fs_none]
  intro c _
  unfold four2
  rw [fs_none]
  intro s hs
  unfold four3
  rw [fs_none]
  intro d _
  unfold four4
  rw [h r s c d hr hs]
  rfl
theorem vSame_k (l : List Int) (hl : l.length ≤ 1048576) (k : Nat) (hk : l.length < k) : laws_vSame.f k l l = some true := by
  unfold laws_vSame.f
  rw [if_pos rfl]
  have main : ∀ (d k i : Nat), i + d = l.length → d < k → laws_vSame.l0 k l l (l.length : Int) (i : Int) = some true := by
    intro d
    induction d with
    | zero =>
      intro k i hi hk
      obtain ⟨k, rfl⟩ : ∃ m, k = m + 1 := ⟨k - 1, by omega⟩
      rw [laws_vSame.l0, if_neg (by omega)]
    | succ d ih =>
      intro k i hi hk
      obtain ⟨k, rfl⟩ : ∃ m, k = m + 1 := ⟨k - 1, by omega⟩
      have c1 : (i : Int) < (l.length : Int) := by omega
      have c2 : (0 : Int) ≤ (i : Int) := Int.natCast_nonneg i
      rw [laws_vSame.l0]
      simp only [if_pos c1, if_pos c2, if_true]
      rw [wrap_ok (by omega) (by omega), show ((i : Int) + 1) = ((i + 1 : Nat) : Int) by omega]
      exact ih k (i + 1) (by omega) (by omega)
  exact main l.length k 0 (by omega) hk
theorem vTable_k (R C : Int) (M : List Int) (hM : M.length ≤ 1048576) (k : Nat) (hk : M.length < k) : laws_vTable.f k R C M R C M = some true := by
  unfold laws_vTable.f
  rw [if_pos rfl, if_pos rfl, vSame_k M hM k hk]
  rfl
theorem four0_some (R C : Nat) (ms : List Nat) (v : List Int) (h : four0 R C ms = some v) : ∃ r c s d : Nat, r < R ∧ c < C ∧ s < R ∧ d < C ∧ v = [(r : Int), (c : Int), (s : Int), (d : Int)] ∧ four ms r c s d = true := by
  unfold four0 at h
  obtain ⟨r, hr, h1⟩ := fs_some _ _ _ h
  unfold four1 at h1
  obtain ⟨c, hc, h2⟩ := fs_some _ _ _ h1
  unfold four2 at h2
  obtain ⟨s, hs, h3⟩ := fs_some _ _ _ h2
  unfold four3 at h3
  obtain ⟨d, hd, h4⟩ := fs_some _ _ _ h3
  unfold four4 at h4
  split at h4
  · rename_i hf
    injection h4 with h4
    exact ⟨r, c, s, d, hr, hc, hs, hd, h4.symm, hf⟩
  · cases h4
theorem cell_parts (i j C : Nat) (hj : j < C) : (i * C + j) / C = i ∧ (i * C + j) % C = j := by
  have hC : 0 < C := by omega
  constructor
  · rw [Nat.mul_comm, Nat.mul_add_div hC, Nat.div_eq_of_lt hj, Nat.add_zero]
  · rw [Nat.mul_comm, Nat.mul_add_mod, Nat.mod_eq_of_lt hj]
theorem bitsum_self (m c : Nat) (hm : m < 2 ^ c) : bitsum (fun j => m.testBit j) c = m := by
  apply Nat.eq_of_testBit_eq
  intro i
  rw [bitsum_bit]
  by_cases hi : i < c
  · simp [hi]
  · have : m.testBit i = false := Nat.testBit_lt_two_pow (Nat.lt_of_lt_of_le hm (Nat.pow_le_pow_right (by omega) (by omega)))
    simp [this]
/-- What the table of two scales is. -/
theorem tos_yes (A B : List Int) (h1 : 1 ≤ A.length) (h2 : A.length ≤ 6) (h3 : 1 ≤ B.length) (h4 : B.length ≤ 6) (hA : allIn A 0 99 = true) (hB : allIn B 0 99 = true) (k : Nat) (hk : 500 < k) : impl_TableOfScales.f k A B = some ((A.length : Int), (B.length : Int), relList A.length B.length (scP A B), true) ∧ spec_TableOfScales.f k A B = some ((A.length : Int), (B.length : Int), relList A.length B.length (scP A B), true) := by
  have hAB : A.length * (B.length + 3) ≤ 6 * 9 := Nat.mul_le_mul (by omega) (by omega)
  have e1 : (1 ≤ (A.length : Int) ∧ (A.length : Int) ≤ 6) := by omega
  have e2 : (1 ≤ (B.length : Int) ∧ (B.length : Int) ≤ 6) := by omega
  constructor
  · unfold impl_TableOfScales.f
    simp only [within_eq, allWithin_k A 0 99 (by omega) k (by omega), allWithin_k B 0 99 (by omega) k (by omega), e1, e2, hA, hB, and_self, decide_true, Option.bind_some, if_true]
    rw [table_k A.length B.length (by omega) (by omega) _ (scP A B) (fun i j hi hj => by
      unfold impl_TableOfScales_1.f scP
      rw [if_pos (by omega), if_pos (by omega), if_pos (by omega), if_pos (by omega)]) k (by omega)]
    rfl
  · unfold spec_TableOfScales.f
    simp only [l1In_eq, l1All_k A 0 99 (by omega) k (by omega), l1All_k B 0 99 (by omega) k (by omega), e1, e2, hA, hB, and_self, decide_true, Option.bind_some, if_true]
    obtain ⟨k, rfl⟩ : ∃ m, k = m + 1 := ⟨k - 1, by omega⟩
    simp only [spec_TableOfScales.j0, Bool.not_true, Bool.false_eq_true, if_false]
    exact scales_l0 A B (by omega) (by omega) A.length k 0 [] (by omega) (by omega) (by simp)
theorem tos_no (A B : List Int) (hAl : A.length ≤ 100) (hBl : B.length ≤ 100) (hv : ¬ (((1 ≤ (A.length : Int) ∧ (A.length : Int) ≤ 6) ∧ (1 ≤ (B.length : Int) ∧ (B.length : Int) ≤ 6)) ∧ allIn A 0 99 = true ∧ allIn B 0 99 = true)) (k : Nat) (hk : 500 < k) : impl_TableOfScales.f k A B = some (0, 0, [], false) ∧ spec_TableOfScales.f k A B = some (0, 0, [], false) := by
  constructor
  · unfold impl_TableOfScales.f
    simp only [within_eq, allWithin_k A 0 99 (by omega) k (by omega), allWithin_k B 0 99 (by omega) k (by omega), Option.bind_some]
    by_cases h1 : 1 ≤ (A.length : Int) ∧ (A.length : Int) ≤ 6
    · by_cases h2 : 1 ≤ (B.length : Int) ∧ (B.length : Int) ≤ 6
      · cases h3 : allIn A 0 99
        · simp [h1, h2]
        · cases h4 : allIn B 0 99
          · simp [h1, h2]
          · exact absurd ⟨⟨h1, h2⟩, h3, h4⟩ hv
      · simp [h1, h2]
    · simp [h1]
  · unfold spec_TableOfScales.f
    obtain ⟨k, rfl⟩ : ∃ m, k = m + 1 := ⟨k - 1, by omega⟩
    simp only [l1In_eq, l1All_k A 0 99 (by omega) (k + 1) (by omega), l1All_k B 0 99 (by omega) (k + 1) (by omega), Option.bind_some, spec_TableOfScales.j0]
    by_cases h1 : 1 ≤ (A.length : Int) ∧ (A.length : Int) ≤ 6
    · by_cases h2 : 1 ≤ (B.length : Int) ∧ (B.length : Int) ≤ 6
      · cases h3 : allIn A 0 99
        · simp [h1, h2]
        · cases h4 : allIn B 0 99
          · simp [h1, h2]
          · exact absurd ⟨⟨h1, h2⟩, h3, h4⟩ hv
      · simp [h1, h2]
    · simp [h1]
/-- Marks that are told, in numbers. -/
def natL (R C : Nat) (p : Nat → Nat → Bool) : List Nat := (List.range R).map fun i => bitsum (p i) C
theorem relList_natL (R C : Nat) (p : Nat → Nat → Bool) : relList R C p = (natL R C p).map (fun (x : Nat) => (x : Int)) := by
  unfold relList natL
  rw [List.map_map]
  rfl
theorem natL_len (R C : Nat) (p : Nat → Nat → Bool) : (natL R C p).length = R := by simp [natL]
theorem natL_lt (R C : Nat) (p : Nat → Nat → Bool) : ∀ x ∈ natL R C p, x < 2 ^ C := by
  intro x hx
  obtain ⟨i, _, rfl⟩ := List.mem_map.1 hx
  exact bitsum_lt _ _
theorem natL_mk {R C : Nat} (p : Nat → Nat → Bool) (i j : Nat) (hi : i < R) : mk (natL R C p) i j = (decide (j < C) && p i j) := by
  unfold mk natL
  rw [List.getD_eq_getElem?_getD, List.getElem?_map, List.getElem?_range hi]
  show (bitsum (p i) C).testBit j = _
  rw [bitsum_bit]
theorem four_false {ms : List Nat} {r c s d : Nat} (h : mk ms r c = true → mk ms r d = false → mk ms s d = true → mk ms s c = false → False) : four ms r c s d = false := by
  unfold four
  cases e1 : mk ms r c
  · rfl
  · cases e2 : mk ms r d
    · cases e3 : mk ms s d
      · rfl
      · cases e4 : mk ms s c
        · exact (h e1 e2 e3 e4).elim
        · rfl
    · rfl
theorem mk_of {R C : Nat} {p : Nat → Nat → Bool} {i j : Nat} (hi : i < R) (h : mk (natL R C p) i j = true) : j < C ∧ p i j = true := by
  rw [natL_mk p i j hi, Bool.and_eq_true] at h
  exact ⟨of_decide_eq_true h.1, h.2⟩
theorem mk_not {R C : Nat} {p : Nat → Nat → Bool} {i j : Nat} (hi : i < R) (hj : j < C) (h : mk (natL R C p) i j = false) : p i j = false := by
  rw [natL_mk p i j hi, decide_eq_true hj, Bool.true_and] at h
  exact h
theorem sc_four (A B : List Int) (R C : Nat) : four0 R C (natL R C (scP A B)) = none ∧ four0 C R (natL C R (fun j i => scP A B i j)) = none ∧ four0 R C (natL R C (fun i j => !scP A B i j)) = none := by
  refine ⟨four0_none _ _ _ (fun r s c d hr hs => four_false fun a b e f => ?_), four0_none _ _ _ (fun r s c d hr hs => four_false fun a b e f => ?_), four0_none _ _ _ (fun r s c d hr hs => four_false fun a b e f => ?_)⟩
  · obtain ⟨hc, a⟩ := mk_of hr a
    obtain ⟨hd, e⟩ := mk_of hs e
    have b := mk_not hr hd b
    have f := mk_not hs hc f
    have a := of_decide_eq_true a
    have e := of_decide_eq_true e
    have b := of_decide_eq_false b
    have f := of_decide_eq_false f
    omega
  · obtain ⟨hc, a⟩ := mk_of hr a
    obtain ⟨hd, e⟩ := mk_of hs e
    have b := mk_not hr hd b
    have f := mk_not hs hc f
    have a := of_decide_eq_true a
    have e := of_decide_eq_true e
    have b := of_decide_eq_false b
    have f := of_decide_eq_false f
    omega
  · obtain ⟨hc, a⟩ := mk_of hr a
    obtain ⟨hd, e⟩ := mk_of hs e
    have b := mk_not hr hd b
    have f := mk_not hs hc f
    rw [Bool.not_eq_true'] at a e
    rw [Bool.not_eq_false'] at b f
    have a := of_decide_eq_false a
    have e := of_decide_eq_false e
    have b := of_decide_eq_true b
    have f := of_decide_eq_true f
    omega
theorem tabIs2 (r c : Nat) (A : List Nat) (h1 : 1 ≤ r) (h2 : r ≤ 6) (h3 : 1 ≤ c) (h4 : c ≤ 6) (hA : A.length = r) (bA : ∀ x ∈ A, x < 2 ^ c) : isTab (r : Int) (c : Int) (A.map (fun (x : Nat) => (x : Int))) = true := (isTab_iff _ _ _).2 ⟨r, c, _, rfl, rfl, rfl, h1, h2, h3, h4, hA, bA⟩
theorem bio_k (r c : Nat) (A : List Nat) (h1 : 1 ≤ r) (h2 : r ≤ 6) (h3 : 1 ≤ c) (h4 : c ≤ 6) (hA : A.length = r) (bA : ∀ x ∈ A, x < 2 ^ c) (k : Nat) (hk : 4000 ≤ k) : impl_IsBiorder.f k (r : Int) (c : Int) (A.map (fun (x : Nat) => (x : Int))) = some ((four0 r c A).isNone, true) ∧ impl_FourCells.f k (r : Int) (c : Int) (A.map (fun (x : Nat) => (x : Int))) = some ((four0 r c A).getD [], (four0 r c A).isSome) := by
  have p64 : 2 ^ c ≤ 64 := Nat.pow_le_pow_right (n := 2) (by omega) h4
  have A64 : ∀ x ∈ A, x < 64 := fun x hx => Nat.lt_of_lt_of_le (bA x hx) p64
  have lA : (A.map (fun (x : Nat) => (x : Int))).length = r := by simp [hA]
  constructor
  · unfold impl_IsBiorder.f
    rw [IsTable_k _ _ _ (by omega) k (by omega), tabIs2 r c A h1 h2 h3 h4 hA bA]
    simp only [Option.bind_some, if_true]
    rw [fourCells_k r c A hA h2 h4 A64 k (by omega)]
    simp only [Option.bind_some]
    cases h : four0 r c A with
    | none => rfl
    | some v => rw [Option.getD_some, if_neg (four0_ne r c A v h)]; rfl
  · unfold impl_FourCells.f
    rw [IsTable_k _ _ _ (by omega) k (by omega), tabIs2 r c A h1 h2 h3 h4 hA bA]
    simp only [Option.bind_some, if_true]
    rw [fourCells_k r c A hA h2 h4 A64 k (by omega)]
    simp only [Option.bind_some]
    cases h : four0 r c A with
    | none => rfl
    | some v => rw [Option.getD_some, if_neg (four0_ne r c A v h)]; rfl
theorem mir_k (r c : Nat) (ms : List Nat) (h1 : 1 ≤ r) (h2 : r ≤ 6) (h3 : 1 ≤ c) (h4 : c ≤ 6) (h5 : ms.length = r) (h6 : ∀ x ∈ ms, x < 2 ^ c) (k : Nat) (hk : 400 < k) : impl_MirrorTable.f k (r : Int) (c : Int) (ms.map (fun (x : Nat) => (x : Int))) = some ((c : Int), (r : Int), relList c r (fun j i => mk ms i j), true) ∧ impl_OppositeTable.f k (r : Int) (c : Int) (ms.map (fun (x : Nat) => (x : Int))) = some ((r : Int), (c : Int), relList r c (fun i j => !mk ms i j), true) := by
  have p64 : 2 ^ c ≤ 64 := Nat.pow_le_pow_right (n := 2) (by omega) h4
  have h64 : ∀ x ∈ ms, x < 64 := fun x hx => Nat.lt_of_lt_of_le (h6 x hx) p64
  have hrc : c * (r + 3) ≤ 6 * 9 := Nat.mul_le_mul h4 (by omega)
  have hrc2 : r * (c + 3) ≤ 6 * 9 := Nat.mul_le_mul h2 (by omega)
  have lA : (ms.map (fun (x : Nat) => (x : Int))).length = r := by simp [h5]
  constructor
  · unfold impl_MirrorTable.f
    rw [IsTable_k _ _ _ (by omega) k (by omega), tabIs2 r c ms h1 h2 h3 h4 h5 h6]
    simp only [Option.bind_some, if_true]
    rw [table_k c r (by omega) (by omega) _ (fun c r => mk ms r c) (fun i j hi hj => by
      unfold impl_MirrorTable_1.f
      rw [marked_k _ _ ms j i h64 (by omega) (by omega)]
      rfl) k (by omega)]
    rfl
  · unfold impl_OppositeTable.f
    rw [IsTable_k _ _ _ (by omega) k (by omega), tabIs2 r c ms h1 h2 h3 h4 h5 h6]
    simp only [Option.bind_some, if_true]
    rw [table_k r c (by omega) (by omega) _ (fun r c => !mk ms r c) (fun i j hi hj => by
      unfold impl_OppositeTable_1.f
      rw [marked_k _ _ ms i j h64 (by omega) (by omega)]
      rfl) k (by omega)]
    rfl
theorem relL_congr (R C : Nat) (p q : Nat → Nat → Bool) (h : ∀ i j, i < R → j < C → p i j = q i j) : relList R C p = relList R C q := by
  unfold relList
  apply List.map_congr_left
  intro i hi
  rw [bitsum_congr C (fun j hj => h i j (List.mem_range.1 hi) hj)]
/-- What the last part tells of a table of scales. -/
theorem bs_j3 (A B : List Int) (h1 : 1 ≤ A.length) (h2 : A.length ≤ 6) (h3 : 1 ≤ B.length) (h4 : B.length ≤ 6) (k : Nat) (hk : 4100 < k) : laws_FnBiordersHaveScales.j3 k true false (A.length : Int) (B.length : Int) (relList A.length B.length (scP A B)) = some true := by
  obtain ⟨k, rfl⟩ : ∃ m, k = m + 1 := ⟨k - 1, by omega⟩
  obtain ⟨f1, f2, f3⟩ := sc_four A B A.length B.length
  rw [laws_FnBiordersHaveScales.j3]
  simp only [Bool.false_eq_true, if_false, if_true]
  have e0 := (bio_k A.length B.length (natL A.length B.length (scP A B)) h1 h2 h3 h4 (natL_len _ _ _) (natL_lt _ _ _) k (by omega)).1
  obtain ⟨m1, m2⟩ := mir_k A.length B.length (natL A.length B.length (scP A B)) h1 h2 h3 h4 (natL_len _ _ _) (natL_lt _ _ _) k (by omega)
  have c1 : relList B.length A.length (fun j i => mk (natL A.length B.length (scP A B)) i j) = relList B.length A.length (fun j i => scP A B i j) := relL_congr _ _ _ _ (fun i j hi hj => by rw [natL_mk _ j i hj, decide_eq_true hi, Bool.true_and])
  have c2 : relList A.length B.length (fun i j => !mk (natL A.length B.length (scP A B)) i j) = relList A.length B.length (fun i j => !scP A B i j) := relL_congr _ _ _ _ (fun i j hi hj => by rw [natL_mk _ i j hi, decide_eq_true hj, Bool.true_and])
  have e1 := (bio_k B.length A.length (natL B.length A.length (fun j i => scP A B i j)) h3 h4 h1 h2 (natL_len _ _ _) (natL_lt _ _ _) k (by omega)).1
  have e2 := (bio_k A.length B.length (natL A.length B.length (fun i j => !scP A B i j)) h1 h2 h3 h4 (natL_len _ _ _) (natL_lt _ _ _) k (by omega)).1
  rw [f1] at e0
  rw [f2] at e1
  rw [f3] at e2
  rw [relList_natL A.length B.length (scP A B), e0]
  simp only [Option.bind_some]
  rw [m1, c1]
  simp only [Option.bind_some]
  rw [relList_natL B.length A.length, e1]
  simp only [Option.bind_some]
  rw [m2, c2]
  simp only [Option.bind_some]
  rw [relList_natL A.length B.length (fun i j => !scP A B i j), e2]
  rfl
theorem sc_draw1 (s : List Int) (hs : s.length ≤ 1048576) (hb : ∀ x ∈ s, 0 ≤ x ∧ x < 256) (A : List Int) (hA : A.length ≤ 20) : ∀ (n k : Nat) (B : List Int) (p h : Int), B.length + n ≤ 40 → n < k → 0 ≤ p → p + 4 * n ≤ 5000 → ∃ A' B', A'.length ≤ 20 ∧ B'.length ≤ 40 ∧ spec_DrawTableOfScales.l1 k A B (n : Int) s p h = some (A', B') := by
  intro n
  induction n with
  | zero =>
    intro k B p h hB hk h0 h1
    obtain ⟨k, rfl⟩ : ∃ m, k = m + 1 := ⟨k - 1, by omega⟩
    rw [spec_DrawTableOfScales.l1, if_neg (by omega)]
    by_cases hp : (A.length : Int) > 0
    · rw [if_pos hp]
      obtain ⟨b, p1, g1, o, o1, o2⟩ := one_ok s hs hb p h 15 h0 (by omega)
      rw [o]
      simp only [Option.bind_some]
      cases b
      · simp only [Bool.false_eq_true, if_false]
        exact ⟨A, B, by omega, by omega, rfl⟩
      · simp only [if_true]
        obtain ⟨v, p2, g2, e, e1, e2⟩ := among_ok s hs hb p1 g1 [(-1), 100] (by decide) (by omega) (by omega)
        rw [e]
        simp only [Option.bind_some]
        rw [if_pos (by omega)]
        exact ⟨_, B, by simp; omega, by omega, rfl⟩
    · rw [if_neg hp]
      exact ⟨A, B, by omega, by omega, rfl⟩
  | succ n ih =>
    intro k B p h hB hk h0 h1
    obtain ⟨k, rfl⟩ : ∃ m, k = m + 1 := ⟨k - 1, by omega⟩
    obtain ⟨v, p1, g1, o, o0, o1, o2, o3, o4⟩ := pick_ok s hs hb p h 8 h0 (by omega)
    obtain ⟨w, p2, g2, e, e1, e2⟩ := among_ok s hs hb p1 g1 [0, 1, 2, 3, 99, v] (by simp) (by omega) (by omega)
    rw [spec_DrawTableOfScales.l1, if_pos (by omega), o]
    simp only [Option.bind_some]
    rw [e]
    simp only [Option.bind_some]
    rw [if_pos (by omega), wrap_ok (by omega) (by omega), show ((n + 1 : Nat) : Int) - 1 = (n : Int) by omega]
    exact ih k _ p2 g2 (by simp; omega) (by omega) (by omega) (by omega)
theorem sc_draw0 (s : List Int) (hs : s.length ≤ 1048576) (hb : ∀ x ∈ s, 0 ≤ x ∧ x < 256) : ∀ (n k : Nat) (A : List Int) (p h : Int), A.length + n ≤ 20 → n + 50 < k → 0 ≤ p → p + 4 * n ≤ 1000 → ∃ A' B', A'.length ≤ 20 ∧ B'.length ≤ 40 ∧ spec_DrawTableOfScales.l0 k A (n : Int) s p h = some (A', B') := by
  intro n
  induction n with
  | zero =>
    intro k A p h hA hk h0 h1
    obtain ⟨k, rfl⟩ : ∃ m, k = m + 1 := ⟨k - 1, by omega⟩
    rw [spec_DrawTableOfScales.l0, if_neg (by omega)]
    obtain ⟨v, p2, g2, e, hv, e1, e2⟩ := among_mem s hs hb p h [0, 1, 2, 3, 4, 6, 7] (by decide) h0 (by omega)
    rw [e]
    simp only [Option.bind_some]
    have hv2 : 0 ≤ v ∧ v ≤ 7 := by
      simp only [List.mem_cons, List.not_mem_nil, or_false] at hv
      omega
    obtain ⟨n, rfl⟩ := Int.eq_ofNat_of_zero_le hv2.1
    exact sc_draw1 s hs hb A (by omega) n k [] p2 g2 (by simp; omega) (by omega) (by omega) (by omega)
  | succ n ih =>
    intro k A p h hA hk h0 h1
    obtain ⟨k, rfl⟩ : ∃ m, k = m + 1 := ⟨k - 1, by omega⟩
    obtain ⟨v, p1, g1, o, o0, o1, o2, o3, o4⟩ := pick_ok s hs hb p h 8 h0 (by omega)
    obtain ⟨w, p2, g2, e, e1, e2⟩ := among_ok s hs hb p1 g1 [0, 1, 2, 3, 99, v] (by simp) (by omega) (by omega)
    rw [spec_DrawTableOfScales.l0, if_pos (by omega), o]
    simp only [Option.bind_some]
    rw [e]
    simp only [Option.bind_some]
    rw [if_pos (by omega), wrap_ok (by omega) (by omega), show ((n + 1 : Nat) : Int) - 1 = (n : Int) by omega]
    exact ih k _ p2 g2 (by simp; omega) (by omega) (by omega) (by omega)
theorem drawScales_ok (s : List Int) (hs : s.length ≤ 1048576) (hb : ∀ x ∈ s, 0 ≤ x ∧ x < 256) (k : Nat) (hk : 100 < k) : ∃ A B, A.length ≤ 20 ∧ B.length ≤ 40 ∧ spec_DrawTableOfScales.f k s = some (A, B) := by
  unfold spec_DrawTableOfScales.f
  obtain ⟨v, p2, g2, e, hv, e1, e2⟩ := among_mem s hs hb 0 0 [0, 1, 2, 3, 4, 6, 7] (by decide) (by omega) (by omega)
  rw [e]
  simp only [Option.bind_some]
  have hv2 : 0 ≤ v ∧ v ≤ 7 := by
    simp only [List.mem_cons, List.not_mem_nil, or_false] at hv
    omega
  obtain ⟨n, rfl⟩ := Int.eq_ofNat_of_zero_le hv2.1
  exact sc_draw0 s hs hb n k [] p2 g2 (by simp; omega) (by omega) (by omega) (by omega)
/-- The second part. -/
theorem bs_j2 (l1 : List Int) (hs : l1.length ≤ 1048576) (hb : ∀ x ∈ l1, 0 ≤ x ∧ x < 256) (k : Nat) (hk : 4200 < k) : laws_FnBiordersHaveScales.j2 k l1 = some true := by
  obtain ⟨k, rfl⟩ : ∃ m, k = m + 1 := ⟨k - 1, by omega⟩
  obtain ⟨A, B, hA, hB, e⟩ := drawScales_ok l1 hs hb k (by omega)
  rw [laws_FnBiordersHaveScales.j2, e]
  simp only [Option.bind_some]
  by_cases hv : ((1 ≤ (A.length : Int) ∧ (A.length : Int) ≤ 6) ∧ (1 ≤ (B.length : Int) ∧ (B.length : Int) ≤ 6)) ∧ allIn A 0 99 = true ∧ allIn B 0 99 = true
  · obtain ⟨⟨h1, h2⟩, h3, h4⟩ := hv
    obtain ⟨q1, q2⟩ := tos_yes A B (by omega) (by omega) (by omega) (by omega) h3 h4 k (by omega)
    have hl := relList_length A.length B.length (scP A B)
    rw [q1, q2]
    simp only [Option.bind_some, bne_self_eq_false, Bool.false_eq_true, if_false]
    rw [vTable_k _ _ _ (by omega) _ (by omega)]
    simp only [Option.bind_some, Bool.not_true]
    exact bs_j3 A B (by omega) (by omega) (by omega) (by omega) k (by omega)
  · obtain ⟨q1, q2⟩ := tos_no A B (by omega) (by omega) hv k (by omega)
    rw [q1, q2]
    simp only [Option.bind_some, bne_self_eq_false, Bool.false_eq_true, if_false]
    rw [vTable_k _ _ _ (by simp) _ (by simp; omega)]
    simp only [Option.bind_some, Bool.not_true]
    obtain ⟨k, rfl⟩ : ∃ m, k = m + 1 := ⟨k - 1, by omega⟩
    rw [laws_FnBiordersHaveScales.j3]
    simp

theorem mk_big {c : Nat} (A : List Nat) (hb : ∀ x ∈ A, x < 2 ^ c) (i j : Nat) (hj : c ≤ j) : mk A i j = false := by
  unfold mk
  exact Nat.testBit_lt_two_pow (Nat.lt_of_lt_of_le (getD_lt (Nat.two_pow_pos c) hb i) (Nat.pow_le_pow_right (by omega) hj))
theorem four_none (r c : Nat) (A : List Nat) (bA : ∀ x ∈ A, x < 2 ^ c) (h : four0 r c A = none) : ∀ i j p q, i < r → j < r → four A i p j q = false := by
  intro i j p q hi hj
  by_cases hp : p < c
  · by_cases hq : q < c
    · unfold four0 at h
      have a := (fs_none _ _).1 h i hi
      unfold four1 at a
      have b := (fs_none _ _).1 a p hp
      unfold four2 at b
      have d := (fs_none _ _).1 b j hj
      unfold four3 at d
      have e := (fs_none _ _).1 d q hq
      unfold four4 at e
      cases hf : four A i p j q
      · rfl
      · rw [hf] at e; simp at e
    · unfold four
      rw [mk_big A bA j q (by omega)]
      simp
  · unfold four
    rw [mk_big A bA i p (by omega)]
    simp
theorem relList_ms {r c : Nat} {ms : List Nat} (h5 : ms.length = r) (h6 : ∀ x ∈ ms, x < 2 ^ c) {p : Nat → Nat → Bool} (hp : ∀ i j, i < r → j < c → p i j = mk ms i j) : relList r c p = ms.map (fun (x : Nat) => (x : Int)) := by
  unfold relList
  apply List.ext_getElem
  · simp [h5]
  · intro i hi hi2
    simp only [List.getElem_map, List.getElem_range]
    simp only [List.length_map, List.length_range] at hi hi2
    rw [bitsum_congr c (fun j hj => hp i j hi hj)]
    have e : ms.getD i 0 = ms[i] := by rw [List.getD_eq_getElem?_getD, List.getElem?_eq_getElem (by omega)]; rfl
    show ((bitsum (fun j => (ms.getD i 0).testBit j) c : Nat) : Int) = _
    rw [e, bitsum_self _ c (h6 _ (List.getElem_mem _))]
theorem filter_le2 (p q : Int → Bool) : ∀ l : List Int, (∀ y ∈ l, p y = true → q y = true) → (l.filter p).length ≤ (l.filter q).length
  | [], _ => Nat.le_refl _
  | x :: l, h => by
    have := filter_le2 p q l (fun y hy => h y (List.mem_cons_of_mem _ hy))
    have hx := h x List.mem_cons_self
    rw [List.filter_cons, List.filter_cons]
    cases hp : p x
    · cases hq : q x
      · exact this
      · simp; omega
    · rw [hx hp]
      simp
      exact this
theorem filter_lt2 (p q : Int → Bool) : ∀ l : List Int, (∀ y ∈ l, p y = true → q y = true) → (∃ y ∈ l, q y = true ∧ p y = false) → (l.filter p).length < (l.filter q).length
  | [], _, h => by obtain ⟨y, hy, _⟩ := h; cases hy
  | x :: l, h, h2 => by
    have hl := fun y hy => h y (List.mem_cons_of_mem x hy)
    have hx := h x List.mem_cons_self
    have le := filter_le2 p q l hl
    rw [List.filter_cons, List.filter_cons]
    obtain ⟨y, hy, hq, hp⟩ := h2
    rcases List.mem_cons.1 hy with rfl | hy
    · rw [hq, hp]
      simp
      omega
    · have := filter_lt2 p q l hl ⟨y, hy, hq, hp⟩
      cases hpx : p x
      · cases hqx : q x
        · exact this
        · simp; omega
      · rw [hx hpx]
        simp
        exact this
theorem stP_iff (x v : Nat) (hx : x < 64) (hv : v < 64) : stP (x : Int) (v : Int) = true ↔ v ≠ x ∧ andn v x = 0 := by
  unfold stP
  rw [andNot_nat v x (by omega) (by omega), Bool.and_eq_true, decide_eq_true_eq, decide_eq_true_eq]
  constructor
  · rintro ⟨a, b⟩
    exact ⟨by omega, by omega⟩
  · rintro ⟨a, b⟩
    exact ⟨by omega, by omega⟩
theorem hiN_lt (ms : List Nat) (h64 : ∀ x ∈ ms, x < 64) (x y : Nat) (hx : x ∈ ms) (hy : y < 64) (hs : andn x y = 0) (hne : x ≠ y) : hiN (asInts ms) (x : Int) < hiN (asInts ms) (y : Int) := by
  obtain ⟨_, hd⟩ := distinct_up (asInts ms)
  refine filter_lt2 _ _ _ (fun v hv hp => ?_) ⟨(x : Int), (hd _).2 (List.mem_map.2 ⟨x, hx, rfl⟩), (stP_iff y x hy (h64 x hx)).2 ⟨hne, hs⟩, ?_⟩
  · obtain ⟨n, hn, rfl⟩ := List.mem_map.1 ((hd v).1 hv)
    obtain ⟨a, b⟩ := (stP_iff x n (h64 x hx) (h64 n hn)).1 hp
    refine (stP_iff y n hy (h64 n hn)).2 ⟨fun e => ?_, (andn_zero n y).2 fun i hi => (andn_zero x y).1 hs i ((andn_zero n x).1 b i hi)⟩
    subst e
    have := andn_zero_le b
    have := andn_zero_le hs
    omega
  · cases h : stP (x : Int) (x : Int)
    · rfl
    · exact absurd rfl ((stP_iff x x (h64 x hx) (h64 x hx)).1 h).1
theorem mxL_ge : ∀ (H : List Int) (a : Int), a ≤ H.foldl mxI a ∧ ∀ x ∈ H, x ≤ H.foldl mxI a
  | [], a => ⟨Int.le_refl _, fun x hx => by cases hx⟩
  | y :: H, a => by
    obtain ⟨h1, h2⟩ := mxL_ge H (mxI a y)
    rw [List.foldl_cons]
    have e1 : a ≤ mxI a y := by unfold mxI; split <;> omega
    have e2 : y ≤ mxI a y := by unfold mxI; split <;> omega
    refine ⟨Int.le_trans e1 h1, fun x hx => ?_⟩
    rcases List.mem_cons.1 hx with rfl | hx
    · exact Int.le_trans e2 h1
    · exact h2 x hx
theorem lowF_spec (ms : List Nat) (H : List Int) (c : Nat) : ∀ (d i : Nat) (a : Int), lowF ms H c i d a ≤ a ∧ (∀ q, i ≤ q → q < i + d → mk ms q c = true → lowF ms H c i d a ≤ H.getD q 0) ∧ (lowF ms H c i d a = a ∨ ∃ q, i ≤ q ∧ q < i + d ∧ mk ms q c = true ∧ lowF ms H c i d a = H.getD q 0)
  | 0, i, a => ⟨Int.le_refl _, fun q h1 h2 => by omega, .inl rfl⟩
  | d + 1, i, a => by
    have hmk : mk ms i c = (ms.getD i 0).testBit c := rfl
    simp only [lowF]
    by_cases hb : (ms.getD i 0).testBit c = true
    · rw [if_pos hb]
      by_cases ha : a < H.getD i 0
      · rw [if_pos ha]
        obtain ⟨h1, h2, h3⟩ := lowF_spec ms H c d (i + 1) a
        refine ⟨h1, fun q q1 q2 q3 => ?_, ?_⟩
        · by_cases e : q = i
          · subst e; omega
          · exact h2 q (by omega) (by omega) q3
        · rcases h3 with h | ⟨q, q1, q2, q3⟩
          · exact .inl h
          · exact .inr ⟨q, by omega, by omega, q3⟩
      · rw [if_neg ha]
        obtain ⟨h1, h2, h3⟩ := lowF_spec ms H c d (i + 1) (H.getD i 0)
        refine ⟨by omega, fun q q1 q2 q3 => ?_, ?_⟩
        · by_cases e : q = i
          · subst e; exact h1
          · exact h2 q (by omega) (by omega) q3
        · rcases h3 with h | ⟨q, q1, q2, q3⟩
          · exact .inr ⟨i, by omega, by omega, by rw [hmk]; exact hb, h⟩
          · exact .inr ⟨q, by omega, by omega, q3⟩
    · rw [if_neg hb]
      obtain ⟨h1, h2, h3⟩ := lowF_spec ms H c d (i + 1) a
      refine ⟨h1, fun q q1 q2 q3 => ?_, ?_⟩
      · by_cases e : q = i
        · subst e; exact absurd (hmk ▸ q3) hb
        · exact h2 q (by omega) (by omega) q3
      · rcases h3 with h | ⟨q, q1, q2, q3⟩
        · exact .inl h
        · exact .inr ⟨q, by omega, by omega, q3⟩
theorem highs_at (ms : List Nat) (i : Nat) (hi : i < ms.length) : (highs (asInts ms) ms.length).getD i 0 = ((hiN (asInts ms) ((ms.getD i 0 : Nat) : Int) : Nat) : Int) := by
  have e : ms.getD i 0 = ms[i] := by rw [List.getD_eq_getElem?_getD, List.getElem?_eq_getElem hi]; rfl
  unfold highs
  rw [List.getD_eq_getElem?_getD, List.getElem?_map, List.getElem?_take_of_lt hi, List.getElem?_map, List.getElem?_eq_getElem hi, e]
  rfl
theorem lows_at (ms : List Nat) (H : List Int) (m : Int) (c j : Nat) (hj : j < c) : (lows ms H m c).getD j 0 = lowF ms H j 0 ms.length m := by
  unfold lows
  rw [List.getD_eq_getElem?_getD, List.getElem?_map, List.getElem?_range hj]
  rfl
/-- The scales tell the table. -/
theorem scal_back (r c : Nat) (ms : List Nat) (h4 : c ≤ 6) (h5 : ms.length = r) (h6 : ∀ x ∈ ms, x < 2 ^ c) (h0 : four0 r c ms = none) : ∀ i j, i < r → j < c → scP (highs (asInts ms) ms.length) (lows ms (highs (asInts ms) ms.length) (mxL (highs (asInts ms) ms.length) + 1) c) i j = mk ms i j := by
  intro i j hi hj
  have h64 : ∀ x ∈ ms, x < 64 := fun x hx => Nat.lt_of_lt_of_le (h6 x hx) (Nat.pow_le_pow_right (n := 2) (by omega) h4)
  unfold scP
  rw [rd_nat, rd_nat, lows_at _ _ _ _ _ hj, highs_at ms i (by omega)]
  obtain ⟨v1, v2, v3⟩ := lowF_spec ms (highs (asInts ms) ms.length) j ms.length 0 (mxL (highs (asInts ms) ms.length) + 1)
  have hmx := (mxL_ge (highs (asInts ms) ms.length) 0).2
  have hf := highs_full ms
  have hge : ∀ q, q < ms.length → (highs (asInts ms) ms.length).getD q 0 ≤ mxL (highs (asInts ms) ms.length) := by
    intro q hq
    refine hmx _ ?_
    rw [List.getD_eq_getElem?_getD, List.getElem?_eq_getElem (by omega)]
    exact List.getElem_mem _
  cases hm : mk ms i j
  · rw [decide_eq_false]
    intro hle
    have hi2 := hge i (by omega)
    rw [highs_at ms i (by omega)] at hi2
    rcases v3 with e | ⟨q, q1, q2, q3, q4⟩
    · omega
    · rw [highs_at ms q (by omega)] at q4
      have hsub : andn (ms.getD i 0) (ms.getD q 0) = 0 := by
        rw [andn_zero]
        intro d hd
        have hfn := four_none r c ms h6 h0 q i j d (by omega) hi
        unfold four at hfn
        have hid : mk ms i d = true := hd
        rw [q3, hid, hm] at hfn
        cases hqd : mk ms q d
        · rw [hqd] at hfn; cases hfn
        · exact hqd
      have hne : ms.getD i 0 ≠ ms.getD q 0 := by
        intro e
        have : mk ms i j = mk ms q j := by unfold mk; rw [e]
        rw [hm, q3] at this
        cases this
      have hmem : ms.getD i 0 ∈ ms := by
        rw [List.getD_eq_getElem?_getD, List.getElem?_eq_getElem (by omega)]
        exact List.getElem_mem _
      have := hiN_lt ms h64 (ms.getD i 0) (ms.getD q 0) hmem (getD_lt (by omega) h64 q) hsub hne
      omega
  · rw [decide_eq_true]
    have := v2 i (by omega) (by omega) hm
    rw [highs_at ms i (by omega)] at this
    exact this
theorem scales_in (ms : List Nat) (c : Nat) (hm : ms.length ≤ 6) : allIn (highs (asInts ms) ms.length) 0 99 = true ∧ allIn (lows ms (highs (asInts ms) ms.length) (mxL (highs (asInts ms) ms.length) + 1) c) 0 99 = true := by
  obtain ⟨b0, b1⟩ := highs_b ms hm
  constructor
  · rw [allIn_iff]
    intro x hx
    obtain ⟨v, _, rfl⟩ := List.mem_map.1 hx
    have := hiN_le (asInts ms) v
    simp only [List.length_map] at this
    omega
  · rw [allIn_iff]
    intro x hx
    obtain ⟨j, _, rfl⟩ := List.mem_map.1 hx
    obtain ⟨v1, v2, v3⟩ := lowF_spec ms (highs (asInts ms) ms.length) j ms.length 0 (mxL (highs (asInts ms) ms.length) + 1)
    refine ⟨?_, by omega⟩
    rcases v3 with e | ⟨q, q1, q2, q3, q4⟩
    · omega
    · rw [highs_at ms q (by omega)] at q4
      omega
theorem tos_back (r c : Nat) (ms : List Nat) (h1 : 1 ≤ r) (h2 : r ≤ 6) (h3 : 1 ≤ c) (h4 : c ≤ 6) (h5 : ms.length = r) (h6 : ∀ x ∈ ms, x < 2 ^ c) (h0 : four0 r c ms = none) (k : Nat) (hk : 500 < k) :
    impl_TableOfScales.f k (scalesN ms c).1 (scalesN ms c).2.1 = some ((r : Int), (c : Int), ms.map (fun (x : Nat) => (x : Int)), true) := by
  obtain ⟨a1, a2⟩ := scales_in ms c (by omega)
  have hf := highs_full ms
  have hl := lows_len ms (highs (asInts ms) ms.length) (mxL (highs (asInts ms) ms.length) + 1) c
  have := (tos_yes _ _ (by omega) (by omega) (by omega) (by omega) a1 a2 k hk).1
  rw [hf, hl, h5] at this
  rw [relList_ms h5 h6 (fun i j hi hj => by rw [← h5]; exact scal_back r c ms h4 h5 h6 h0 i j hi hj)] at this
  unfold scalesN
  simp only
  rw [h5]
  exact this
theorem vM (r c : Nat) (ms : List Nat) (h2 : r ≤ 6) (h3 : 1 ≤ c) (h4 : c ≤ 6) (h5 : ms.length = r) (i j : Nat) (hi : i < r) (hj : j < c) : laws_vMarked.f (r : Int) (c : Int) (ms.map (fun (x : Nat) => (x : Int))) (wrap64 (wrap64 ((i : Int) * (c : Int)) + (j : Int))) = some (mk ms i j) := by
  have hic : i * c ≤ 6 * 6 := Nat.mul_le_mul (by omega) h4
  have e : wrap64 (wrap64 ((i : Int) * (c : Int)) + (j : Int)) = ((i * c + j : Nat) : Int) := by
    rw [show (i : Int) * (c : Int) = ((i * c : Nat) : Int) by simp, wrap_ok (x := ((i * c : Nat) : Int)) (by omega) (by omega), wrap_ok (by omega) (by omega)]
    omega
  obtain ⟨p1, p2⟩ := cell_parts i j c hj
  rw [e, vMarked_k _ c ms (i * c + j) h3 h4 (by rw [p1]; omega) (by omega), p1, p2]
theorem bs_j1_no (l1 : List Int) (hs : l1.length ≤ 1048576) (hb : ∀ x ∈ l1, 0 ≤ x ∧ x < 256) (v : List Int) (R C : Int) (M : List Int) (k : Nat) (hk : 4300 < k) : laws_FnBiordersHaveScales.j1 k l1 v false R C M = some true := by
  obtain ⟨k, rfl⟩ : ∃ m, k = m + 1 := ⟨k - 1, by omega⟩
  rw [laws_FnBiordersHaveScales.j1, if_neg (by simp)]
  exact bs_j2 l1 hs hb k (by omega)
theorem bs_j1_yes (l1 : List Int) (hs : l1.length ≤ 1048576) (hb : ∀ x ∈ l1, 0 ≤ x ∧ x < 256) (r c : Nat) (ms : List Nat) (h2 : r ≤ 6) (h3 : 1 ≤ c) (h4 : c ≤ 6) (h5 : ms.length = r) (v : List Int) (h0 : four0 r c ms = some v) (k : Nat) (hk : 4300 < k) : laws_FnBiordersHaveScales.j1 k l1 v true (r : Int) (c : Int) (ms.map (fun (x : Nat) => (x : Int))) = some true := by
  obtain ⟨k, rfl⟩ : ∃ m, k = m + 1 := ⟨k - 1, by omega⟩
  obtain ⟨i, p, j, q, hi, hp, hj, hq, rfl, hf⟩ := four0_some r c ms v h0
  unfold four at hf
  simp only [Bool.and_eq_true, Bool.not_eq_true'] at hf
  obtain ⟨⟨⟨m1, m2⟩, m3⟩, m4⟩ := hf
  have r0 : rd [(i : Int), (p : Int), (j : Int), (q : Int)] 0 = (i : Int) := rfl
  have r1 : rd [(i : Int), (p : Int), (j : Int), (q : Int)] 1 = (p : Int) := rfl
  have r2 : rd [(i : Int), (p : Int), (j : Int), (q : Int)] 2 = (j : Int) := rfl
  have r3 : rd [(i : Int), (p : Int), (j : Int), (q : Int)] 3 = (q : Int) := rfl
  have ln : ([(i : Int), (p : Int), (j : Int), (q : Int)].length : Int) = 4 := rfl
  rw [laws_FnBiordersHaveScales.j1, if_pos rfl, ln, if_pos (by decide), if_pos (by decide), r0, r1, r2, r3, vM r c ms h2 h3 h4 h5 i p hi hp, m1]
  simp only [Option.bind_some, if_true]
  rw [if_pos (by decide), if_pos (by decide), vM r c ms h2 h3 h4 h5 j q hj hq, m3]
  simp only [Option.bind_some, if_true]
  rw [vM r c ms h2 h3 h4 h5 i q hi hq, m2]
  simp only [Option.bind_some, Bool.false_eq_true, if_false]
  rw [vM r c ms h2 h3 h4 h5 j p hj hp, m4]
  simp only [Option.bind_some, Bool.false_eq_true, if_false]
  exact bs_j2 l1 hs hb k (by omega)

theorem byte_wfB (s : List Int) (h : ∀ x ∈ s, (Lit.int .u8 x).wf = true) : ∀ x ∈ s, 0 ≤ x ∧ x < 256 := by
  intro x hx
  have e : IntKind.u8.min ≤ x ∧ x ≤ IntKind.u8.max := by simpa [Lit.wf] using h x hx
  have e1 : IntKind.u8.min = 0 := rfl
  have e2 : IntKind.u8.max = 255 := rfl
  omega
theorem so_no (R C : Int) (M : List Int) (hM : M.length ≤ 100) (hT : isTab R C M = false) (k : Nat) (hk : 5500 < k) : impl_ScalesOf.f k R C M = some ([], [], false) ∧ spec_ScalesOf.f k R C M = some ([], [], false) ∧ impl_FourCells.f k R C M = some ([], false) ∧ spec_FourCells.f k R C M = some ([], false) ∧ impl_IsBiorder.f k R C M = some (false, false) := by
  obtain ⟨k, rfl⟩ : ∃ m, k = m + 1 := ⟨k - 1, by omega⟩
  refine ⟨?_, ?_, ?_, ?_, ?_⟩
  · unfold impl_ScalesOf.f
    rw [IsTable_k R C M (by omega) (k + 1) (by omega), hT]
    simp only [Option.bind_some, Bool.false_eq_true, if_false]
    rw [impl_ScalesOf.j0, if_pos rfl]
  · unfold spec_ScalesOf.f
    rw [feGood_k R C M (by omega) (k + 1) (by omega), hT]
    simp only [Option.bind_some, Bool.false_eq_true, if_false]
    rw [spec_ScalesOf.j0, if_pos rfl]
  · unfold impl_FourCells.f
    rw [IsTable_k R C M (by omega) (k + 1) (by omega), hT]
    rfl
  · unfold spec_FourCells.f
    rw [feGood_k R C M (by omega) (k + 1) (by omega), hT]
    rfl
  · unfold impl_IsBiorder.f
    rw [IsTable_k R C M (by omega) (k + 1) (by omega), hT]
    rfl
theorem so_tab (r c : Nat) (ms : List Nat) (h1 : 1 ≤ r) (h2 : r ≤ 6) (h3 : 1 ≤ c) (h4 : c ≤ 6) (h5 : ms.length = r) (h6 : ∀ x ∈ ms, x < 2 ^ c) (k : Nat) (hk : 5500 < k) : spec_FourCells.f k (r : Int) (c : Int) (ms.map (fun (x : Nat) => (x : Int))) = some ((four0 r c ms).getD [], (four0 r c ms).isSome) ∧
    (four0 r c ms = none → impl_ScalesOf.f k (r : Int) (c : Int) (ms.map (fun (x : Nat) => (x : Int))) = some (scalesN ms c) ∧ spec_ScalesOf.f k (r : Int) (c : Int) (ms.map (fun (x : Nat) => (x : Int))) = some (scalesN ms c)) ∧
    (four0 r c ms ≠ none → impl_ScalesOf.f k (r : Int) (c : Int) (ms.map (fun (x : Nat) => (x : Int))) = some ([], [], false) ∧ spec_ScalesOf.f k (r : Int) (c : Int) (ms.map (fun (x : Nat) => (x : Int))) = some ([], [], false)) := by
  have h64 : ∀ x ∈ ms, x < 64 := fun x hx => Nat.lt_of_lt_of_le (h6 x hx) (Nat.pow_le_pow_right (n := 2) (by omega) h4)
  have hT := tabIs2 r c ms h1 h2 h3 h4 h5 h6
  have lA : (ms.map (fun (x : Nat) => (x : Int))).length = r := by simp [h5]
  have hfb := four_bio r c ms h5 h6
  refine ⟨?_, fun h0 => ⟨?_, ?_⟩, fun hn => ?_⟩
  · unfold spec_FourCells.f
    rw [feGood_k _ _ _ (by omega) k (by omega), hT]
    simp only [Option.bind_some, if_true]
    have e := spFour_k (r : Int) (c : Int) c h4 ms (by omega) h64 h6 k (by omega)
    have l1 : ((asInts ms).length : Int) = (ms.length : Int) := by simp
    rw [l1, e, four_eq, h5]
    cases four0 r c ms <;> rfl
  · unfold impl_ScalesOf.f
    rw [IsTable_k _ _ _ (by omega) k (by omega), hT]
    simp only [Option.bind_some, if_true]
    rw [fourCells_k r c ms h5 h2 h4 h64 k (by omega), h0]
    simp only [Option.bind_some, Option.getD_none, if_true]
    exact imScales_k r c h4 ms (by omega) (by omega) h64 k (by omega)
  · unfold spec_ScalesOf.f
    rw [feGood_k _ _ _ (by omega) k (by omega), hT]
    simp only [Option.bind_some, if_true]
    rw [feBiorder_k _ _ ms (by omega) h64 k (by omega), hfb.1 h0]
    simp only [Option.bind_some, Option.getD_none, Bool.not_true]
    exact spScales_k _ c h4 ms (by omega) h64 k (by omega)
  · obtain ⟨k, rfl⟩ : ∃ m, k = m + 1 := ⟨k - 1, by omega⟩
    cases h0 : four0 r c ms with
    | none => exact absurd h0 hn
    | some v =>
      have hv := four0_ne r c ms v h0
      constructor
      · unfold impl_ScalesOf.f
        rw [IsTable_k _ _ _ (by omega) (k + 1) (by omega), hT]
        simp only [Option.bind_some, if_true]
        rw [fourCells_k r c ms h5 h2 h4 h64 (k + 1) (by omega), h0]
        simp only [Option.bind_some, Option.getD_some, if_neg hv]
        rw [impl_ScalesOf.j0, if_pos rfl]
      · unfold spec_ScalesOf.f
        rw [feGood_k _ _ _ (by omega) (k + 1) (by omega), hT]
        simp only [Option.bind_some, if_true]
        rw [feBiorder_k _ _ ms (by omega) h64 (k + 1) (by omega)]
        cases hb0 : bio0 ms with
        | none => rw [hfb.2 hb0] at h0; cases h0
        | some w =>
          rw [bio0_false ms w hb0]
          simp only [Option.bind_some, Option.getD_some, Bool.not_false]
          rw [spec_ScalesOf.j0, if_pos rfl]
theorem FnBiordersHaveScales : laws_FnBiordersHaveScales.Pure := by
  intro l0 l1 _ _ hb0 _ _ hb1
  have b0 := byte_wfB l0 hb0
  have b1 := byte_wfB l1 hb1
  by_cases hbig : (l0.length : Int) > 1048576
  · refine ⟨1, ?_⟩
    unfold laws_FnBiordersHaveScales.f laws_big.f
    rw [if_pos hbig]
    rfl
  by_cases hbig2 : (l1.length : Int) > (wrap64 (1048576 - (l0.length : Int)))
  · refine ⟨1, ?_⟩
    unfold laws_FnBiordersHaveScales.f laws_big.f
    rw [if_neg hbig, decide_eq_true hbig2]
    rfl
  have hl1 : l1.length ≤ 1048576 := by
    rw [wrap_ok (by omega) (by omega)] at hbig2
    omega
  obtain ⟨K, hK⟩ : ∃ K : Nat, 6000 < K := ⟨6001, by omega⟩
  obtain ⟨K, rfl⟩ : ∃ m, K = m + 1 := ⟨K - 1, by omega⟩
  obtain ⟨R, C, M, p', h', z, hM, _, _⟩ := table_ok l0 (by omega) b0 (K + 1) (by omega)
  have hD : spec_DrawScalesOf.f (K + 1) l0 = some (R, C, M) := by
    unfold spec_DrawScalesOf.f spec_DrawIsTable.f
    rw [z]
    rfl
  refine ⟨K + 1, ?_⟩
  unfold laws_FnBiordersHaveScales.f laws_big.f
  rw [if_neg hbig, decide_eq_false hbig2]
  simp only [Option.bind_some, Bool.false_eq_true, if_false]
  rw [hD]
  simp only [Option.bind_some]
  cases hT : isTab R C M
  · obtain ⟨q1, q2, q3, q4, q5⟩ := so_no R C M (by omega) hT (K + 1) (by omega)
    rw [q1, q2, q3, q4, q5]
    simp only [Option.bind_some, bne_self_eq_false, Bool.false_eq_true, if_false]
    rw [vSame_k [] (by simp) _ (by simp)]
    simp only [Option.bind_some, if_true]
    rw [IsTable_k R C M (by omega) _ (by omega), hT]
    simp only [Option.bind_some, bne_self_eq_false, Bool.false_eq_true, if_false]
    rw [laws_FnBiordersHaveScales.j0]
    simp only [Bool.false_eq_true, if_false]
    exact bs_j1_no l1 hl1 b1 _ _ _ _ K (by omega)
  · obtain ⟨r, c, ms, rfl, rfl, rfl, h1, h2, h3, h4, h5, h6⟩ := (isTab_iff R C M).1 hT
    obtain ⟨q4, qn, qs⟩ := so_tab r c ms h1 h2 h3 h4 h5 h6 (K + 1) (by omega)
    obtain ⟨q5, q3⟩ := bio_k r c ms h1 h2 h3 h4 h5 h6 (K + 1) (by omega)
    have hfl := four_len r c ms
    cases h0 : four0 r c ms with
    | none =>
      obtain ⟨q1, q2⟩ := qn h0
      have hf := highs_full ms
      have hl := lows_len ms (highs (asInts ms) ms.length) (mxL (highs (asInts ms) ms.length) + 1) c
      have e1 : (scalesN ms c).1.length ≤ 6 := by show (highs (asInts ms) ms.length).length ≤ 6; omega
      have e2 : (scalesN ms c).2.1.length ≤ 6 := by show (lows ms _ _ c).length ≤ 6; omega
      have e3 : (scalesN ms c).2.2 = true := rfl
      rw [h0] at q4 q5 q3
      rw [q1, q2, q3, q4, q5]
      simp only [Option.bind_some, bne_self_eq_false, Bool.false_eq_true, if_false, Option.getD_none, Option.isSome_none, Option.isNone_none, e3]
      rw [vSame_k _ (by omega) _ (by omega)]
      simp only [Option.bind_some, if_true]
      rw [vSame_k _ (by omega) _ (by omega)]
      simp only [Option.bind_some, if_true]
      rw [vSame_k [] (by simp) _ (by simp)]
      simp only [Option.bind_some, if_true]
      rw [IsTable_k _ _ _ (by omega) _ (by omega), hT]
      simp only [Option.bind_some, bne_self_eq_false, Bool.false_eq_true, if_false, if_true]
      rw [laws_FnBiordersHaveScales.j0]
      simp only [Bool.false_eq_true, if_false, if_true]
      rw [tos_back r c ms h1 h2 h3 h4 h5 h6 h0 K (by omega)]
      simp only [Option.bind_some, if_true]
      rw [vTable_k _ _ _ (by omega) _ (by omega)]
      simp only [Option.bind_some, if_true]
      exact bs_j1_no l1 hl1 b1 _ _ _ _ K (by omega)
    | some v =>
      obtain ⟨q1, q2⟩ := qs (by rw [h0]; simp)
      rw [h0, Option.getD_some] at hfl
      rw [h0] at q4 q5 q3
      rw [q1, q2, q3, q4, q5]
      simp only [Option.bind_some, bne_self_eq_false, Bool.false_eq_true, if_false, Option.getD_some, Option.isSome_some, Option.isNone_some]
      rw [vSame_k [] (by simp) _ (by simp)]
      simp only [Option.bind_some, if_true]
      rw [vSame_k v (by omega) _ (by omega)]
      simp only [Option.bind_some, if_true]
      rw [IsTable_k _ _ _ (by omega) _ (by omega), hT]
      simp only [Option.bind_some, bne_self_eq_false, Bool.false_eq_true, if_false, if_true, Bool.not_true]
      rw [laws_FnBiordersHaveScales.j0]
      simp only [Bool.false_eq_true, if_false]
      exact bs_j1_yes l1 hl1 b1 r c ms h2 h3 h4 h5 v h0 K (by omega)

end Go.Proofs.Ytakabmokpknknaa.Pure
