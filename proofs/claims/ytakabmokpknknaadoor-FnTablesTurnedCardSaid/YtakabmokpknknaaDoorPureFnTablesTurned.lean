/- Tables turned: for every two texts the law is true; no condition. -/
import Derived.Test.YtakabmokpknknaaDoorPFnTablesTurnedx11
import Derived.Lib.SplitLaws
import Derived.Lib.Strings
namespace Go.Proofs.YtakabmokpknknaaDoor.Pure
open Go.RowKit Go.Proofs.YtakabmokpknknaaDoor.PFnTablesTurned Go.Proofs.YtakabmokpknknaaDoorW.PrintWords Go.Proofs.YtakabmokpknknaaDoorW.PrintLast Go.Proofs.YtakabmokpknknaaDoorW.PrintMore Go.Proofs.YtakabmokpknknaaDoorA Go.Proofs.YtakabmokpknknaaDoorA Go.Proofs.YtakabmokpknknaaDoorA
set_option linter.unusedVariables false
set_option linter.unusedSimpArgs false

theorem wrap_ok {x : Int} (h0 : -9223372036854775808 ≤ x) (h1 : x < 9223372036854775808) : wrap64 x = x := by unfold wrap64; omega
theorem wf_bounds {x : Int} (h : (Lit.int .i64 x).wf = true) : -9223372036854775808 ≤ x ∧ x < 9223372036854775808 := by
  have e : IntKind.i64.min ≤ x ∧ x ≤ 9223372036854775807 := by simpa [Lit.wf] using h
  have m : IntKind.i64.min = -9223372036854775808 := by decide
  omega
theorem rd_nat (l : List Int) (i : Nat) : rd l (i : Int) = l.getD i 0 := by simp [rd]

theorem within_eq (a b c : Int) : impl_within.f a b c = some (decide (b ≤ a ∧ a ≤ c)) := by
  unfold impl_within.f
  by_cases h : a ≥ b <;> simp [h] <;> omega
theorem l1In_eq (a b c : Int) : spec_l1In.f a b c = some (decide (b ≤ a ∧ a ≤ c)) := by
  unfold spec_l1In.f
  by_cases h : a ≥ b <;> simp [h] <;> omega

def allIn (l : List Int) (a b : Int) : Bool := l.all fun x => decide (a ≤ x ∧ x ≤ b)
theorem getD_drop (l : List Int) (i : Nat) (h : i < l.length) : l.drop i = l.getD i 0 :: l.drop (i + 1) := by
  rw [List.drop_eq_getElem_cons h]
  simp [h]
theorem allWithin_l0 (l : List Int) (a b : Int) (hl : l.length ≤ 4611686018427387904) : ∀ (d k i : Nat), i + d = l.length → d < k → impl_allWithin.l0 k a b l (l.length : Int) (i : Int) = some (allIn (l.drop i) a b) := by
  intro d
  induction d with
  | zero =>
    intro k i h hk
    obtain ⟨k, rfl⟩ : ∃ m, k = m + 1 := ⟨k - 1, by omega⟩
    simp only [impl_allWithin.l0]
    rw [if_neg (by omega), List.drop_eq_nil_of_le (by omega)]
    rfl
  | succ d ih =>
    intro k i h hk
    obtain ⟨k, rfl⟩ : ∃ m, k = m + 1 := ⟨k - 1, by omega⟩
    simp only [impl_allWithin.l0]
    rw [if_pos (by omega), if_pos (by omega), if_pos (by omega), wrap_ok (by omega) (by omega), within_eq, getD_drop l i (by omega), rd_nat]
    have e : ((i : Int) + 1) = ((i + 1 : Nat) : Int) := by omega
    rw [e, ih k (i + 1) (by omega) (by omega)]
    simp only [Option.bind_some, allIn, List.all_cons]
    cases decide (a ≤ l.getD i 0 ∧ l.getD i 0 ≤ b) <;> simp
theorem allWithin_k (l : List Int) (a b : Int) (hl : l.length ≤ 4611686018427387904) (k : Nat) (hk : l.length < k) : impl_allWithin.f k l a b = some (allIn l a b) := by
  unfold impl_allWithin.f
  exact allWithin_l0 l a b hl l.length k 0 (by omega) hk
theorem l1All_l0 (l : List Int) (a b : Int) (hl : l.length ≤ 4611686018427387904) : ∀ (d k i : Nat), i + d = l.length → d < k → spec_l1All.l0 k a b l (l.length : Int) (i : Int) = some (allIn (l.drop i) a b) := by
  intro d
  induction d with
  | zero =>
    intro k i h hk
    obtain ⟨k, rfl⟩ : ∃ m, k = m + 1 := ⟨k - 1, by omega⟩
    simp only [spec_l1All.l0]
    rw [if_neg (by omega), List.drop_eq_nil_of_le (by omega)]
    rfl
  | succ d ih =>
    intro k i h hk
    obtain ⟨k, rfl⟩ : ∃ m, k = m + 1 := ⟨k - 1, by omega⟩
    simp only [spec_l1All.l0]
    rw [if_pos (by omega), if_pos (by omega), if_pos (by omega), wrap_ok (by omega) (by omega), l1In_eq, getD_drop l i (by omega), rd_nat]
    have e : ((i : Int) + 1) = ((i + 1 : Nat) : Int) := by omega
    rw [e, ih k (i + 1) (by omega) (by omega)]
    simp only [Option.bind_some, allIn, List.all_cons]
    cases decide (a ≤ l.getD i 0 ∧ l.getD i 0 ≤ b) <;> simp
theorem l1All_k (l : List Int) (a b : Int) (hl : l.length ≤ 4611686018427387904) (k : Nat) (hk : l.length < k) : spec_l1All.f k l a b = some (allIn l a b) := by
  unfold spec_l1All.f
  exact l1All_l0 l a b hl l.length k 0 (by omega) hk

/-- A table, told as data. -/
def isTab (R C : Int) (M : List Int) : Bool := decide (1 ≤ R ∧ R ≤ 6) && decide (1 ≤ C ∧ C ≤ 6) && decide ((M.length : Int) = R) && allIn M 0 (wrap64 (shl .i64 1 C - 1))
theorem IsTable_k (R C : Int) (M : List Int) (hM : M.length ≤ 4611686018427387904) (k : Nat) (hk : M.length < k) : impl_IsTable.f k R C M = some (isTab R C M) := by
  unfold impl_IsTable.f isTab
  simp only [within_eq, Option.bind_some]
  by_cases h1 : 1 ≤ R ∧ R ≤ 6
  · by_cases h2 : 1 ≤ C ∧ C ≤ 6
    · by_cases h3 : (M.length : Int) = R
      · rw [if_pos h3, if_pos (show 0 ≤ C by omega), allWithin_k M _ _ hM k hk]
        simp [h1, h2, h3]
      · rw [if_neg h3]
        simp [h1, h2, h3]
    · simp [h1, h2]
  · simp [h1]
theorem feGood_k (R C : Int) (M : List Int) (hM : M.length ≤ 4611686018427387904) (k : Nat) (hk : M.length < k) : spec_feGood.f k R C M = some (isTab R C M) := by
  unfold spec_feGood.f isTab
  simp only [l1In_eq, Option.bind_some]
  by_cases h1 : 1 ≤ R ∧ R ≤ 6
  · by_cases h2 : 1 ≤ C ∧ C ≤ 6
    · by_cases h3 : (M.length : Int) = R
      · rw [if_pos h3, if_pos (show 0 ≤ C by omega), l1All_k M _ _ hM k hk]
        simp [h1, h2, h3]
      · rw [if_neg h3]
        simp [h1, h2, h3]
    · simp [h1, h2]
  · simp [h1]

/-! Sets as numbers. -/
def andn (a b : Nat) : Nat := a ^^^ (a &&& b)
theorem andn_bit (a b i : Nat) : (andn a b).testBit i = (a.testBit i && !b.testBit i) := by
  unfold andn
  rw [Nat.testBit_xor, Nat.testBit_and]
  cases a.testBit i <;> cases b.testBit i <;> rfl
theorem wrap_i64_nat (n : Nat) (h : n < 2 ^ 63) : IntKind.i64.wrap (n : Int) = (n : Int) := by
  rw [IntKind.wrap_i64]
  have : (n : Int) < 9223372036854775808 := by omega
  omega
theorem ofInt_toNat (n : Nat) (h : n < 2 ^ 63) : (BitVec.ofInt 64 (n : Int)).toNat = n := by
  rw [BitVec.ofInt_natCast, BitVec.toNat_ofNat, Nat.mod_eq_of_lt (by omega)]
theorem and_nat (a b : Nat) (ha : a < 2 ^ 63) (hb : b < 2 ^ 63) : Go.bits .and .i64 (a : Int) (b : Int) = ((a &&& b : Nat) : Int) := by
  unfold Go.bits
  show IntKind.i64.wrap ((BitVec.ofInt 64 (a : Int) &&& BitVec.ofInt 64 (b : Int)).toNat : Int) = _
  rw [BitVec.toNat_and, ofInt_toNat a ha, ofInt_toNat b hb]
  exact wrap_i64_nat _ (Nat.lt_of_le_of_lt Nat.and_le_left ha)
theorem or_nat (a b : Nat) (ha : a < 2 ^ 63) (hb : b < 2 ^ 63) : Go.bits .or .i64 (a : Int) (b : Int) = ((a ||| b : Nat) : Int) := by
  unfold Go.bits
  show IntKind.i64.wrap ((BitVec.ofInt 64 (a : Int) ||| BitVec.ofInt 64 (b : Int)).toNat : Int) = _
  rw [BitVec.toNat_or, ofInt_toNat a ha, ofInt_toNat b hb]
  exact wrap_i64_nat _ (Nat.or_lt_two_pow ha hb)
theorem xor_nat (a b : Nat) (ha : a < 2 ^ 63) (hb : b < 2 ^ 63) : Go.bits .xor .i64 (a : Int) (b : Int) = ((a ^^^ b : Nat) : Int) := by
  unfold Go.bits
  show IntKind.i64.wrap ((BitVec.ofInt 64 (a : Int) ^^^ BitVec.ofInt 64 (b : Int)).toNat : Int) = _
  rw [BitVec.toNat_xor, ofInt_toNat a ha, ofInt_toNat b hb]
  exact wrap_i64_nat _ (Nat.xor_lt_two_pow ha hb)
theorem andn_le (a b : Nat) : andn a b ≤ a := Nat.le_of_testBit fun i h => by
  rw [andn_bit] at h
  cases h1 : a.testBit i
  · simp [h1] at h
  · rfl
theorem andNot_nat (a b : Nat) (ha : a < 2 ^ 63) (hb : b < 2 ^ 63) : Go.bits .andNot .i64 (a : Int) (b : Int) = ((andn a b : Nat) : Int) := by
  unfold Go.bits
  show IntKind.i64.wrap ((BitVec.ofInt 64 (a : Int) &&& ~~~ BitVec.ofInt 64 (b : Int)).toNat : Int) = _
  have e : (BitVec.ofInt 64 (a : Int) &&& ~~~ BitVec.ofInt 64 (b : Int)).toNat = andn a b := by
    apply Nat.eq_of_testBit_eq
    intro i
    rw [andn_bit, BitVec.toNat_and, Nat.testBit_and, ofInt_toNat a ha, BitVec.testBit_toNat, BitVec.getLsbD_not, BitVec.ofInt_natCast, BitVec.getLsbD_ofNat]
    by_cases hi : i < 64
    · rw [decide_eq_true hi]
      simp only [Bool.true_and]
    · have : a.testBit i = false := Nat.testBit_lt_two_pow (Nat.lt_of_lt_of_le ha (Nat.pow_le_pow_right (by omega) (by omega)))
      simp [this]
  rw [e]
  exact wrap_i64_nat _ (Nat.lt_of_le_of_lt (andn_le a b) ha)
theorem andn_zero (a b : Nat) : andn a b = 0 ↔ ∀ i, a.testBit i = true → b.testBit i = true := by
  constructor
  · intro h i hi
    have := andn_bit a b i
    rw [h, hi] at this
    cases hb : b.testBit i
    · simp [hb] at this
    · rfl
  · intro h
    apply Nat.eq_of_testBit_eq
    intro i
    rw [andn_bit]
    cases ha : a.testBit i
    · simp
    · simp [h i ha]
theorem andn_zero_le {a b : Nat} (h : andn a b = 0) : a ≤ b := Nat.le_of_testBit fun i hi => (andn_zero a b).1 h i hi
theorem andNot_le {p i : Int} (h0 : 0 ≤ p) (h1 : 0 ≤ i) (hp : p < 9223372036854775808) (hi : i < 9223372036854775808) (h : Go.bits .andNot .i64 p i = 0) : p ≤ i := by
  obtain ⟨a, rfl⟩ := Int.eq_ofNat_of_zero_le h0
  obtain ⟨b, rfl⟩ := Int.eq_ofNat_of_zero_le h1
  rw [andNot_nat a b (by omega) (by omega)] at h
  have := andn_zero_le (a := a) (b := b) (by omega)
  omega

/-- The set of the j < n for which q tells true. -/
def bitsum (q : Nat → Bool) : Nat → Nat
  | 0 => 0
  | j + 1 => bitsum q j ||| (if q j then 2 ^ j else 0)
theorem bitsum_lt (q : Nat → Bool) (n : Nat) : bitsum q n < 2 ^ n := by
  induction n with
  | zero => simp [bitsum]
  | succ n ih =>
    rw [bitsum]
    apply Nat.or_lt_two_pow
    · exact Nat.lt_of_lt_of_le ih (Nat.pow_le_pow_right (by omega) (by omega))
    · split
      · exact Nat.pow_lt_pow_right (by omega) (by omega)
      · exact Nat.two_pow_pos _
theorem bitsum_bit (q : Nat → Bool) (n i : Nat) : (bitsum q n).testBit i = (decide (i < n) && q i) := by
  induction n with
  | zero => simp [bitsum]
  | succ n ih =>
    rw [bitsum, Nat.testBit_or, ih]
    by_cases e : i = n
    · subst e
      cases h : q i <;> simp [Nat.testBit_two_pow_self]
    · have : (if q n then 2 ^ n else 0).testBit i = false := by
        split
        · rw [Nat.testBit_two_pow_of_ne (by omega)]
        · simp
      rw [this]
      by_cases h : i < n
      · simp [h, show i < n + 1 by omega]
      · simp [h, show ¬ i < n + 1 by omega]
theorem bitsum_congr {q q' : Nat → Bool} (n : Nat) (h : ∀ i, i < n → q i = q' i) : bitsum q n = bitsum q' n := by
  induction n with
  | zero => rfl
  | succ n ih => rw [bitsum, bitsum, ih (fun i hi => h i (by omega)), h n (by omega)]
theorem shl_one (j : Nat) (h : j < 62) : shl .i64 1 (j : Int) = ((2 ^ j : Nat) : Int) := by
  unfold shl
  have e : min (j : Int).toNat IntKind.i64.bits = j := by
    show min (j : Int).toNat 64 = j
    omega
  rw [e]
  have e2 : (1 : Int) * 2 ^ j = ((2 ^ j : Nat) : Int) := by simp
  rw [e2]
  exact wrap_i64_nat _ (Nat.pow_lt_pow_right (by omega) (by omega))
theorem or_shl (a j : Nat) (ha : a < 2 ^ 62) (hj : j < 62) : Go.bits .or .i64 (a : Int) (shl .i64 1 (j : Int)) = ((a ||| 2 ^ j : Nat) : Int) := by
  rw [shl_one j hj]
  exact or_nat a _ (Nat.lt_of_lt_of_le ha (by decide)) (Nat.pow_lt_pow_right (by omega) (by omega))
/-- The rows' sets. -/
def relList (R C : Nat) (p : Nat → Nat → Bool) : List Int := (List.range R).map fun i => ((bitsum (p i) C : Nat) : Int)
theorem relList_length (R C : Nat) (p : Nat → Nat → Bool) : (relList R C p).length = R := by simp [relList]
theorem relList_congr {R C : Nat} {p p' : Nat → Nat → Bool} (h : ∀ i j, i < R → j < C → p i j = p' i j) : relList R C p = relList R C p' := by
  unfold relList
  apply List.map_congr_left
  intro i hi
  rw [bitsum_congr C (fun j hj => h i j (by simpa using hi) hj)]
/-- A list that is being filled: the first i rows are whole, the row i has the columns < j, the others are 0. -/
def part (R C : Nat) (p : Nat → Nat → Bool) (i j : Nat) : List Int := (List.range R).map fun r => if r < i then ((bitsum (p r) C : Nat) : Int) else if r = i then ((bitsum (p r) j : Nat) : Int) else 0
theorem part_length (R C : Nat) (p : Nat → Nat → Bool) (i j : Nat) : (part R C p i j).length = R := by simp [part]
theorem part_start (R C : Nat) (p : Nat → Nat → Bool) : List.replicate R 0 = part R C p 0 0 := by
  apply List.ext_getElem?
  intro r
  by_cases h : r < R
  · simp [part, h, List.getElem?_replicate, bitsum]
  · rw [List.getElem?_eq_none (by simp; omega), List.getElem?_eq_none (by rw [part_length]; omega)]
theorem part_next (R C : Nat) (p : Nat → Nat → Bool) (i : Nat) : part R C p i C = part R C p (i + 1) 0 := by
  apply List.ext_getElem?
  intro r
  by_cases h : r < R
  · simp only [part, List.getElem?_map, List.getElem?_range h, Option.map_some]
    by_cases h1 : r < i
    · simp [h1, show r < i + 1 by omega]
    · by_cases h2 : r = i
      · simp [h2]
      · simp [h1, h2, show ¬ r < i + 1 by omega, bitsum]
  · rw [List.getElem?_eq_none (by rw [part_length]; omega), List.getElem?_eq_none (by rw [part_length]; omega)]
theorem part_end (R C : Nat) (p : Nat → Nat → Bool) : part R C p R 0 = relList R C p := by
  unfold part relList
  apply List.map_congr_left
  intro r hr
  rw [if_pos (by simpa using hr)]
theorem part_rd (R C : Nat) (p : Nat → Nat → Bool) (i j : Nat) (hi : i < R) : rd (part R C p i j) (i : Int) = ((bitsum (p i) j : Nat) : Int) := by
  rw [rd_nat]
  simp [part, List.getD_eq_getElem?_getD, hi]
theorem part_set (R C : Nat) (p : Nat → Nat → Bool) (i j : Nat) (hi : i < R) (hp : p i j = true) : (part R C p i j).set i ((bitsum (p i) j ||| 2 ^ j : Nat) : Int) = part R C p i (j + 1) := by
  apply List.ext_getElem?
  intro r
  by_cases h : r < R
  · rw [List.getElem?_set]
    simp only [part, List.getElem?_map, List.getElem?_range h, Option.map_some, List.length_map, List.length_range]
    by_cases e : i = r
    · subst e
      simp [h, bitsum, hp]
    · rw [if_neg e]
      simp [show ¬ r = i from fun h => e h.symm]
  · rw [List.getElem?_eq_none (by simp [part_length]; omega), List.getElem?_eq_none (by rw [part_length]; omega)]
theorem part_skip (R C : Nat) (p : Nat → Nat → Bool) (i j : Nat) (hp : p i j = false) : part R C p i j = part R C p i (j + 1) := by
  unfold part
  apply List.map_congr_left
  intro r _
  by_cases h1 : r < i
  · simp [h1]
  · by_cases h2 : r = i
    · subst h2
      simp [bitsum, hp]
    · simp [h1, h2]

theorem table_l0 (R C : Nat) (hR : R ≤ 60) (hC : C ≤ 60) (is : Int → Int → Option Bool) (p : Nat → Nat → Bool) (h : ∀ i j : Nat, i < R → j < C → is i j = some (p i j)) :
    ∀ (d k i : Nat), i + d = R → d * (C + 3) < k → impl_table.l0 k (C : Int) is (R : Int) (i : Int) (R : Int) (C : Int) (part R C p i 0) = some ((R : Int), (C : Int), relList R C p) := by
  intro d
  induction d with
  | zero =>
    intro k i hi hk
    obtain ⟨k, rfl⟩ : ∃ m, k = m + 1 := ⟨k - 1, by omega⟩
    simp only [impl_table.l0]
    have e : i = R := by omega
    subst e
    rw [if_neg (by omega), part_end]
  | succ d ih =>
    intro k i hi hk
    rw [Nat.succ_mul] at hk
    obtain ⟨k, rfl⟩ : ∃ m, k = m + 1 := ⟨k - 1, by omega⟩
    simp only [impl_table.l0]
    rw [if_pos (by omega)]
    have inner : ∀ (e k j : Nat), j + e = C → d * (C + 3) + 1 + e < k → impl_table.l1 k (C : Int) is (i : Int) (R : Int) (i : Int) (C : Int) (j : Int) (R : Int) (C : Int) (part R C p i j) = some ((R : Int), (C : Int), relList R C p) := by
      intro e
      induction e with
      | zero =>
        intro k j hj hk
        obtain ⟨k, rfl⟩ : ∃ m, k = m + 1 := ⟨k - 1, by omega⟩
        simp only [impl_table.l1]
        have e1 : ((i : Int) + 1) = ((i + 1 : Nat) : Int) := by omega
        have e2 : j = C := by omega
        subst e2
        rw [if_neg (by omega), wrap_ok (by omega) (by omega), e1, part_next]
        exact ih k (i + 1) (by omega) (by omega)
      | succ e ihe =>
        intro k j hj hk
        obtain ⟨k, rfl⟩ : ∃ m, k = m + 1 := ⟨k - 1, by omega⟩
        simp only [impl_table.l1]
        have e1 : ((j : Int) + 1) = ((j + 1 : Nat) : Int) := by omega
        have e3 : (i : Int).toNat = i := by omega
        rw [if_pos (by omega), h i j (by omega) (by omega), wrap_ok (by omega) (by omega), e1, e3]
        simp only [Option.bind_some]
        cases hp : p i j
        · rw [if_neg (by simp), part_skip R C p i j hp]
          exact ihe k (j + 1) (by omega) (by omega)
        · rw [if_pos rfl, if_pos (by omega), if_pos (by rw [part_length]; omega), if_pos (by omega), part_rd R C p i j (by omega), or_shl _ j (Nat.lt_of_lt_of_le (bitsum_lt (p i) j) (Nat.pow_le_pow_right (by omega) (by omega))) (by omega), part_set R C p i j (by omega) hp]
          exact ihe k (j + 1) (by omega) (by omega)
    exact inner C k 0 (by omega) (by omega)
/-- The table of what is told of each cell. -/
theorem table_k (R C : Nat) (hR : R ≤ 60) (hC : C ≤ 60) (is : Int → Int → Option Bool) (p : Nat → Nat → Bool) (h : ∀ i j : Nat, i < R → j < C → is i j = some (p i j)) (k : Nat) (hk : R * (C + 3) < k) :
    impl_table.f k (R : Int) (C : Int) is = some ((R : Int), (C : Int), relList R C p) := by
  unfold impl_table.f
  rw [if_pos (by omega), if_pos (by omega)]
  have e : ((R : Int)).toNat = R := by omega
  rw [e, part_start R C p]
  exact table_l0 R C hR hC is p h R k 0 (by omega) hk

/-- The columns of a table's marks, as a number. -/
theorem allIn_iff (l : List Int) (a b : Int) : allIn l a b = true ↔ ∀ x ∈ l, a ≤ x ∧ x ≤ b := by
  unfold allIn
  rw [List.all_eq_true]
  simp
/-- What a table is: its rows, its columns, and each row's marks as a number. -/
theorem isTab_iff (R C : Int) (M : List Int) : isTab R C M = true ↔ ∃ (r c : Nat) (ms : List Nat), R = (r : Int) ∧ C = (c : Int) ∧ M = ms.map (fun (x : Nat) => (x : Int)) ∧ 1 ≤ r ∧ r ≤ 6 ∧ 1 ≤ c ∧ c ≤ 6 ∧ ms.length = r ∧ ∀ x ∈ ms, x < 2 ^ c := by
  unfold isTab
  simp only [Bool.and_eq_true, decide_eq_true_eq, allIn_iff]
  constructor
  · rintro ⟨⟨⟨h1, h2⟩, h3⟩, h4⟩
    have ec : C = ((C.toNat : Nat) : Int) := by omega
    have e5 : wrap64 (shl .i64 1 C - 1) = ((2 ^ C.toNat - 1 : Nat) : Int) := by
      rw [ec, shl_one C.toNat (by omega)]
      have hp : 0 < 2 ^ C.toNat := Nat.two_pow_pos _
      have hq : 2 ^ C.toNat ≤ 2 ^ 6 := Nat.pow_le_pow_right (by omega) (by omega)
      have e6 : (((C.toNat : Nat) : Int)).toNat = C.toNat := by omega
      rw [e6, wrap_ok (by omega) (by omega)]
      omega
    rw [e5] at h4
    refine ⟨R.toNat, C.toNat, M.map Int.toNat, by omega, ec, ?_, by omega, by omega, by omega, by omega, by simp; omega, ?_⟩
    · rw [List.map_map]
      conv => lhs; rw [← List.map_id M]
      apply List.map_congr_left
      intro x hx
      have := h4 x hx
      show x = ((x.toNat : Nat) : Int)
      omega
    · intro x hx
      obtain ⟨y, hy, rfl⟩ := List.mem_map.1 hx
      have := h4 y hy
      have hp : 0 < 2 ^ C.toNat := Nat.two_pow_pos _
      omega
  · rintro ⟨r, c, ms, rfl, rfl, rfl, h1, h2, h3, h4, h5, h6⟩
    have hp : 0 < 2 ^ c := Nat.two_pow_pos _
    have hq : 2 ^ c ≤ 2 ^ 6 := Nat.pow_le_pow_right (by omega) (by omega)
    have e5 : wrap64 (shl .i64 1 (c : Int) - 1) = ((2 ^ c - 1 : Nat) : Int) := by
      rw [shl_one c (by omega), wrap_ok (by omega) (by omega)]
      omega
    refine ⟨⟨⟨by omega, by omega⟩, by simp; omega⟩, ?_⟩
    intro x hx
    obtain ⟨y, hy, rfl⟩ := List.mem_map.1 hx
    have := h6 y hy
    rw [e5]
    omega
/-- Is a row marked in a column? -/
def mk (ms : List Nat) (r c : Nat) : Bool := (ms.getD r 0).testBit c
theorem rd_map (ms : List Nat) (i : Nat) : rd (ms.map (fun (x : Nat) => (x : Int))) (i : Int) = ((ms.getD i 0 : Nat) : Int) := by
  rw [rd_nat]
  simp only [List.getD_eq_getElem?_getD, List.getElem?_map]
  cases ms[i]? <;> simp
theorem getD_lt {ms : List Nat} {b : Nat} (hb : 0 < b) (h : ∀ x ∈ ms, x < b) (i : Nat) : ms.getD i 0 < b := by
  rw [List.getD_eq_getElem?_getD]
  cases hx : ms[i]? with
  | none => simpa using hb
  | some x => exact h x (List.mem_of_getElem? hx)
/-- The bit of a number, as Go asks it. -/
theorem shr_nat (x c : Nat) (hc : c < 64) : shr .i64 (x : Int) (c : Int) = ((x / 2 ^ c : Nat) : Int) := by
  unfold shr
  have e : min (c : Int).toNat IntKind.i64.bits = c := by
    show min (c : Int).toNat 64 = c
    omega
  rw [e]
  simp
theorem bit_and (x c : Nat) (hx : x < 2 ^ 63) (hc : c < 64) : (Go.bits .and .i64 (shr .i64 (x : Int) (c : Int)) 1 == 1) = x.testBit c := by
  rw [shr_nat x c hc]
  have h1 : x / 2 ^ c < 2 ^ 63 := Nat.lt_of_le_of_lt (Nat.div_le_self _ _) hx
  have e : Go.bits .and .i64 ((x / 2 ^ c : Nat) : Int) 1 = ((x / 2 ^ c &&& 1 : Nat) : Int) := and_nat _ 1 h1 (by decide)
  rw [e, Nat.and_one_is_mod]
  have e2 : x.testBit c = decide (x / 2 ^ c % 2 = 1) := Nat.testBit_eq_decide_div_mod_eq
  rw [e2]
  by_cases h : x / 2 ^ c % 2 = 1
  · simp [h]
  · have : x / 2 ^ c % 2 = 0 := by omega
    simp [this]
theorem marked_k (R C : Int) (ms : List Nat) (r c : Nat) (hb : ∀ x ∈ ms, x < 64) (hr : r < ms.length) (hc : c < 60) : impl_Table_marked.f R C (ms.map (fun (x : Nat) => (x : Int))) (r : Int) (c : Int) = some (mk ms r c) := by
  unfold impl_Table_marked.f mk
  have := getD_lt (b := 64) (by omega) hb r
  rw [if_pos (by omega), if_pos (by simpa using hr), if_pos (by omega), rd_map, bit_and _ c (by omega) (by omega)]

theorem wrap_small (n : Nat) (h : n < 1000) : wrap64 (n : Int) = (n : Int) := wrap_ok (by omega) (by omega)

theorem tmod_nat (n : Nat) : Int.tmod (n : Int) 2 = ((n % 2 : Nat) : Int) := by
  rw [Int.tmod_eq_emod_of_nonneg (by omega)]
  omega
theorem orHas_k (x i : Nat) (hi : i < 64) : spec_orHas.f (x : Int) (i : Int) = some (x.testBit i) := by
  unfold spec_orHas.f
  rw [if_pos (by omega), shr_nat x i hi, tmod_nat]
  have e2 : x.testBit i = decide (x / 2 ^ i % 2 = 1) := Nat.testBit_eq_decide_div_mod_eq
  rw [e2]
  congr 1
  by_cases h : x / 2 ^ i % 2 = 1
  · simp [h]
  · have : x / 2 ^ i % 2 = 0 := by omega
    simp [this]

theorem mirror_1 (R C : Int) (ms : List Nat) (c r : Nat) (hb : ∀ x ∈ ms, x < 64) (hr : r < ms.length) (hc : c < 60) : impl_MirrorTable_1.f (c : Int) (r : Int) R C (ms.map (fun (x : Nat) => (x : Int))) = some (mk ms r c) := by
  unfold impl_MirrorTable_1.f
  rw [marked_k R C ms r c hb hr hc]
  rfl
theorem feMirror_l0 (R C : Nat) (ms : List Nat) (hR : ms.length = R) (hR6 : R ≤ 6) (hC : C ≤ 6) (hb : ∀ x ∈ ms, x < 64) : ∀ (d k i : Nat) (out : List Int), i + d = C → d * (R + 3) < k → out = (List.range i).map (fun c => ((bitsum (fun r => mk ms r c) R : Nat) : Int)) →
    spec_feMirror.l0 k (i : Int) (R : Int) (C : Int) (ms.map (fun (x : Nat) => (x : Int))) (C : Int) (R : Int) out = some ((C : Int), (R : Int), relList C R (fun c r => mk ms r c)) := by
  intro d
  induction d with
  | zero =>
    intro k i out hi hk ho
    obtain ⟨k, rfl⟩ : ∃ m, k = m + 1 := ⟨k - 1, by omega⟩
    simp only [spec_feMirror.l0]
    have e : i = C := by omega
    rw [if_neg (by omega), ho, e]
    rfl
  | succ d ih =>
    intro k i out hi hk ho
    rw [Nat.succ_mul] at hk
    obtain ⟨k, rfl⟩ : ∃ m, k = m + 1 := ⟨k - 1, by omega⟩
    have ol : out.length = i := by rw [ho]; simp
    simp only [spec_feMirror.l0]
    rw [if_pos (by omega)]
    have inner : ∀ (e k j : Nat), j + e = R → d * (R + 3) + 1 + e < k → spec_feMirror.l1 k (i : Int) ((bitsum (fun r => mk ms r i) j : Nat) : Int) (ms.map (fun (x : Nat) => (x : Int))) (R : Int) (j : Int) (R : Int) (C : Int) (ms.map (fun (x : Nat) => (x : Int))) (C : Int) (R : Int) out = some ((C : Int), (R : Int), relList C R (fun c r => mk ms r c)) := by
      intro e
      induction e with
      | zero =>
        intro k j hj hk
        obtain ⟨k, rfl⟩ : ∃ m, k = m + 1 := ⟨k - 1, by omega⟩
        simp only [spec_feMirror.l1]
        have e2 : j = R := by omega
        rw [if_neg (by omega), if_pos (by omega), wrap_ok (by omega) (by omega), show ((i : Int) + 1) = ((i + 1 : Nat) : Int) by omega]
        refine ih k (i + 1) _ (by omega) (by omega) ?_
        rw [ho, List.range_succ, List.map_append, e2]
        rfl
      | succ e ihe =>
        intro k j hj hk
        obtain ⟨k, rfl⟩ : ∃ m, k = m + 1 := ⟨k - 1, by omega⟩
        simp only [spec_feMirror.l1]
        have next := ihe k (j + 1) (by omega) (by omega)
        rw [if_pos (by omega), if_pos (by omega), if_pos (by simp; omega), rd_map, orHas_k _ i (by omega), wrap_ok (by omega) (by omega), show ((j : Int) + 1) = ((j + 1 : Nat) : Int) by omega]
        simp only [Option.bind_some]
        have em : (ms.getD j 0).testBit i = mk ms j i := rfl
        rw [em]
        cases hp : mk ms j i
        · have e2 : bitsum (fun r => mk ms r i) (j + 1) = bitsum (fun r => mk ms r i) j := by simp [bitsum, hp]
          rw [if_neg (by simp), ← e2]
          exact next
        · have e2 : bitsum (fun r => mk ms r i) (j + 1) = bitsum (fun r => mk ms r i) j ||| 2 ^ j := by simp [bitsum, hp]
          rw [if_pos rfl, or_shl _ j (Nat.lt_of_lt_of_le (bitsum_lt _ j) (Nat.pow_le_pow_right (by omega) (by omega))) (by omega), ← e2]
          exact next
    have e3 : ((ms.map (fun (x : Nat) => (x : Int))).length : Int) = (R : Int) := by simp; omega
    rw [e3]
    have := inner R k 0 (by omega) (by omega)
    simpa [bitsum] using this
theorem feMirror_k (R C : Nat) (ms : List Nat) (hR : ms.length = R) (hR6 : R ≤ 6) (hC : C ≤ 6) (hb : ∀ x ∈ ms, x < 64) (k : Nat) (hk : 100 ≤ k) : spec_feMirror.f k (R : Int) (C : Int) (ms.map (fun (x : Nat) => (x : Int))) = some ((C : Int), (R : Int), relList C R (fun c r => mk ms r c)) := by
  unfold spec_feMirror.f
  have h : C * (R + 3) ≤ 6 * 9 := Nat.mul_le_mul hC (by omega)
  exact feMirror_l0 R C ms hR hR6 hC hb C k 0 [] (by omega) (by omega) (by simp)

theorem meet_1 (R C R' C' : Int) (ms ns : List Nat) (r c : Nat) (hb : ∀ x ∈ ms, x < 64) (hb2 : ∀ x ∈ ns, x < 64) (hr : r < ms.length) (hr2 : r < ns.length) (hc : c < 60) :
    impl_MeetTables_1.f (r : Int) (c : Int) R C (ms.map (fun (x : Nat) => (x : Int))) R' C' (ns.map (fun (x : Nat) => (x : Int))) = some (mk ms r c && mk ns r c) := by
  unfold impl_MeetTables_1.f
  rw [marked_k R C ms r c hb hr hc]
  simp only [Option.bind_some]
  cases mk ms r c
  · simp
  · rw [if_pos rfl, marked_k R' C' ns r c hb2 hr2 hc]
    simp
theorem meet_row (m n c : Nat) (hm : m < 2 ^ c) (hn : n < 2 ^ c) (hc : c ≤ 6) : Go.bits .and .i64 (m : Int) (n : Int) = ((bitsum (fun j => m.testBit j && n.testBit j) c : Nat) : Int) := by
  have hq : 2 ^ c ≤ 2 ^ 6 := Nat.pow_le_pow_right (by omega) (by omega)
  rw [and_nat _ _ (by omega) (by omega)]
  congr 1
  apply Nat.eq_of_testBit_eq
  intro i
  rw [Nat.testBit_and, bitsum_bit]
  by_cases hi : i < c
  · simp [hi]
  · have : m.testBit i = false := Nat.testBit_lt_two_pow (Nat.lt_of_lt_of_le hm (Nat.pow_le_pow_right (by omega) (by omega)))
    simp [this]
theorem feMeet_l0 (r c : Nat) (ms ns : List Nat) (hr : ms.length = r) (hr2 : ns.length = r) (hr6 : r ≤ 6) (hc : c ≤ 6) (hb : ∀ x ∈ ms, x < 2 ^ c) (hb2 : ∀ x ∈ ns, x < 2 ^ c) (x1 x2 R C : Int) :
    ∀ (d k i : Nat) (out : List Int), i + d = r → d < k → out = (List.range i).map (fun r => ((bitsum (fun j => mk ms r j && mk ns r j) c : Nat) : Int)) →
    spec_feMeet.l0 k (ms.map (fun (x : Nat) => (x : Int))) (r : Int) (i : Int) x1 x2 (ns.map (fun (x : Nat) => (x : Int))) R C out = some (R, C, relList r c (fun r c => mk ms r c && mk ns r c)) := by
  intro d
  induction d with
  | zero =>
    intro k i out hi hk ho
    obtain ⟨k, rfl⟩ : ∃ m, k = m + 1 := ⟨k - 1, by omega⟩
    simp only [spec_feMeet.l0]
    have e : i = r := by omega
    subst e
    rw [if_neg (by omega), ho]
    rfl
  | succ d ih =>
    intro k i out hi hk ho
    obtain ⟨k, rfl⟩ : ∃ m, k = m + 1 := ⟨k - 1, by omega⟩
    simp only [spec_feMeet.l0]
    have e1 : ((i : Int) + 1) = ((i + 1 : Nat) : Int) := by omega
    have ol : out.length = i := by rw [ho]; simp
    have e2 := meet_row (ms.getD i 0) (ns.getD i 0) c (getD_lt (Nat.two_pow_pos _) hb i) (getD_lt (Nat.two_pow_pos _) hb2 i) hc
    rw [if_pos (by omega), if_pos (by omega), if_pos (by simp; omega), if_pos (by simp; omega), if_pos (by omega), rd_map, rd_map, wrap_ok (by omega) (by omega), e1, e2]
    refine ih k (i + 1) _ (by omega) (by omega) ?_
    rw [ho, List.range_succ, List.map_append]
    rfl
/-- What both tables' meet comes to, for either side. -/
theorem meet_both (R C : Int) (M : List Int) (R' C' : Int) (N : List Int) (hM : M.length ≤ 1048576) (hN : N.length ≤ 1048576) :
    ∃ a b y z, y.length ≤ 6 ∧ (∀ k, M.length + N.length + 400 < k → impl_MeetTables.f k R C M R' C' N = some (a, b, y, z)) ∧ (∀ k, M.length + N.length + 400 < k → spec_MeetTables.f k R C M R' C' N = some (a, b, y, z)) := by
  have none : ∀ (h : ¬ (isTab R C M = true ∧ isTab R' C' N = true ∧ R = R' ∧ C = C')), ∃ a b y z, y.length ≤ 6 ∧ (∀ k, M.length + N.length + 400 < k → impl_MeetTables.f k R C M R' C' N = some (a, b, y, z)) ∧ (∀ k, M.length + N.length + 400 < k → spec_MeetTables.f k R C M R' C' N = some (a, b, y, z)) := by
    intro h
    refine ⟨0, 0, [], false, by simp, fun k hk => ?_, fun k hk => ?_⟩
    · unfold impl_MeetTables.f
      rw [IsTable_k R C M (by omega) k (by omega)]
      simp only [Option.bind_some]
      split
      · rw [IsTable_k R' C' N (by omega) k (by omega)]
        simp only [Option.bind_some]
        split
        · split
          · split
            · exact absurd ⟨by assumption, by assumption, by assumption, by assumption⟩ h
            · rfl
          · rfl
        · rfl
      · rfl
    · unfold spec_MeetTables.f
      rw [feGood_k R C M (by omega) k (by omega)]
      simp only [Option.bind_some]
      split
      · rw [feGood_k R' C' N (by omega) k (by omega)]
        simp only [Option.bind_some]
        split
        · split
          · split
            · exact absurd ⟨by assumption, by assumption, by assumption, by assumption⟩ h
            · rfl
          · rfl
        · rfl
      · rfl
  by_cases hA : isTab R C M = true ∧ isTab R' C' N = true ∧ R = R' ∧ C = C'
  · obtain ⟨hT, hT', rfl, rfl⟩ := hA
    obtain ⟨r, c, ms, rfl, rfl, rfl, h1, h2, h3, h4, h5, h6⟩ := (isTab_iff R C M).1 hT
    obtain ⟨r', c', ns, er, ec, rfl, q1, q2, q3, q4, q5, q6⟩ := (isTab_iff _ _ N).1 hT'
    have er' : r' = r := by omega
    have ec' : c' = c := by omega
    subst er' ec'
    have h64 : ∀ x ∈ ms, x < 64 := fun x hx => Nat.lt_of_lt_of_le (h6 x hx) (Nat.pow_le_pow_right (n := 2) (by omega) h4)
    have g64 : ∀ x ∈ ns, x < 64 := fun x hx => Nat.lt_of_lt_of_le (q6 x hx) (Nat.pow_le_pow_right (n := 2) (by omega) h4)
    have hrc : r' * (c' + 3) ≤ 6 * 9 := Nat.mul_le_mul h2 (by omega)
    refine ⟨(r' : Int), (c' : Int), relList r' c' (fun r c => mk ms r c && mk ns r c), true, by rw [relList_length]; omega, fun k hk => ?_, fun k hk => ?_⟩
    · unfold impl_MeetTables.f
      rw [IsTable_k _ _ _ (by omega) k (by omega), hT]
      simp only [Option.bind_some, if_true]
      rw [IsTable_k _ _ _ (by omega) k (by omega), hT']
      simp only [Option.bind_some, if_true]
      rw [table_k r' c' (by omega) (by omega) _ (fun r c => mk ms r c && mk ns r c) (fun i j hi hj => meet_1 _ _ _ _ ms ns i j h64 g64 (by omega) (by omega) (by omega)) k (by omega)]
      rfl
    · unfold spec_MeetTables.f
      rw [feGood_k _ _ _ (by omega) k (by omega), hT]
      simp only [Option.bind_some, if_true]
      rw [feGood_k _ _ _ (by omega) k (by omega), hT']
      simp only [Option.bind_some, if_true]
      have hl : ((ms.map (fun (x : Nat) => (x : Int))).length : Int) = (r' : Int) := by simp; omega
      unfold spec_feMeet.f
      rw [hl]
      have := feMeet_l0 r' c' ms ns h5 q5 h2 h4 h6 q6 (r' : Int) (c' : Int) (r' : Int) (c' : Int) r' k 0 [] (by omega) (by simp at hk; omega) (by simp)
      rw [show ((0 : Nat) : Int) = 0 from rfl] at this
      rw [this]
      rfl
  · exact none hA

/-- The cells without a mark in the columns < j of the row i. -/
def emptyRow (C : Nat) (ms : List Nat) (i j : Nat) : List Int := ((List.range j).filter (fun c => !mk ms i c)).map (fun (c : Nat) => ((i * C + c : Nat) : Int))
/-- The cells without a mark in the rows < i. -/
def emptyTo (C : Nat) (ms : List Nat) (i : Nat) : List Int := (List.range i).flatMap (fun r => emptyRow C ms r C)
theorem emptyRow_succ (C : Nat) (ms : List Nat) (i j : Nat) : emptyRow C ms i (j + 1) = emptyRow C ms i j ++ (if mk ms i j = true then [] else [((i * C + j : Nat) : Int)]) := by
  unfold emptyRow
  rw [List.range_succ, List.filter_append, List.map_append]
  cases h : mk ms i j <;> simp [h]
theorem emptyRow_length (C : Nat) (ms : List Nat) (i j : Nat) : (emptyRow C ms i j).length ≤ j := by
  have := List.length_filter_le (fun c => !mk ms i c) (List.range j)
  simpa [emptyRow] using this
theorem emptyTo_succ (C : Nat) (ms : List Nat) (i : Nat) : emptyTo C ms (i + 1) = emptyTo C ms i ++ emptyRow C ms i C := by
  unfold emptyTo
  rw [List.range_succ, List.flatMap_append]
  simp
theorem emptyTo_length (C : Nat) (ms : List Nat) (i : Nat) : (emptyTo C ms i).length ≤ i * C := by
  induction i with
  | zero => simp [emptyTo]
  | succ i ih =>
    rw [emptyTo_succ, List.length_append, Nat.succ_mul]
    have := emptyRow_length C ms i C
    omega
theorem cell_wrap (i C j : Nat) (hi : i ≤ 6) (hC : C ≤ 6) (hj : j ≤ 6) : wrap64 ((wrap64 ((i : Int) * (C : Int))) + (j : Int)) = ((i * C + j : Nat) : Int) := by
  have h : i * C ≤ 6 * 6 := Nat.mul_le_mul hi hC
  have e : (i : Int) * (C : Int) = ((i * C : Nat) : Int) := by simp
  have e2 : wrap64 ((i * C : Nat) : Int) = ((i * C : Nat) : Int) := wrap_ok (by omega) (by omega)
  rw [e, e2, wrap_ok (by omega) (by omega)]
  simp
theorem emptyCells_l0 (R C : Nat) (ms : List Nat) (hR : ms.length = R) (hR6 : R ≤ 6) (hC : C ≤ 6) (hb : ∀ x ∈ ms, x < 64) : ∀ (d k i : Nat), i + d = R → d * (C + 3) < k → impl_Table_emptyCells.l0 k (emptyTo C ms i) (R : Int) (i : Int) (R : Int) (C : Int) (ms.map (fun (x : Nat) => (x : Int))) = some (emptyTo C ms R) := by
  intro d
  induction d with
  | zero =>
    intro k i hi hk
    obtain ⟨k, rfl⟩ : ∃ m, k = m + 1 := ⟨k - 1, by omega⟩
    simp only [impl_Table_emptyCells.l0]
    have e : i = R := by omega
    rw [if_neg (by omega), e]
  | succ d ih =>
    intro k i hi hk
    rw [Nat.succ_mul] at hk
    obtain ⟨k, rfl⟩ : ∃ m, k = m + 1 := ⟨k - 1, by omega⟩
    simp only [impl_Table_emptyCells.l0]
    rw [if_pos (by omega)]
    have inner : ∀ (e k j : Nat), j + e = C → d * (C + 3) + 1 + e < k → impl_Table_emptyCells.l1 k (emptyTo C ms i ++ emptyRow C ms i j) (i : Int) (R : Int) (i : Int) (C : Int) (j : Int) (R : Int) (C : Int) (ms.map (fun (x : Nat) => (x : Int))) = some (emptyTo C ms R) := by
      intro e
      induction e with
      | zero =>
        intro k j hj hk
        obtain ⟨k, rfl⟩ : ∃ m, k = m + 1 := ⟨k - 1, by omega⟩
        simp only [impl_Table_emptyCells.l1]
        have e2 : j = C := by omega
        rw [if_neg (by omega), wrap_ok (by omega) (by omega), show ((i : Int) + 1) = ((i + 1 : Nat) : Int) by omega, e2, ← emptyTo_succ]
        exact ih k (i + 1) (by omega) (by omega)
      | succ e ihe =>
        intro k j hj hk
        obtain ⟨k, rfl⟩ : ∃ m, k = m + 1 := ⟨k - 1, by omega⟩
        simp only [impl_Table_emptyCells.l1]
        have next := ihe k (j + 1) (by omega) (by omega)
        have l1 := emptyTo_length C ms i
        have l2 := emptyRow_length C ms i j
        have l3 : i * C ≤ 6 * 6 := Nat.mul_le_mul (by omega) hC
        rw [if_pos (by omega), marked_k _ _ ms i j hb (by omega) (by omega), wrap_ok (show -9223372036854775808 ≤ (j : Int) + 1 by omega) (by omega), show ((j : Int) + 1) = ((j + 1 : Nat) : Int) by omega, cell_wrap i C j (by omega) hC (by omega)]
        simp only [Option.bind_some]
        rw [emptyRow_succ] at next
        cases hm : mk ms i j
        · rw [if_neg (by simp), if_pos (by simp; omega)]
          simpa [hm] using next
        · rw [if_pos rfl]
          simpa [hm] using next
    have := inner C k 0 (by omega) (by omega)
    simpa [emptyRow] using this
/-- The empty cells. -/
theorem emptyCells_k (R C : Nat) (ms : List Nat) (hR : ms.length = R) (hR6 : R ≤ 6) (hC : C ≤ 6) (hb : ∀ x ∈ ms, x < 64) (k : Nat) (hk : 100 ≤ k) : impl_Table_emptyCells.f k (R : Int) (C : Int) (ms.map (fun (x : Nat) => (x : Int))) = some (emptyTo C ms R) := by
  unfold impl_Table_emptyCells.f
  have h : R * (C + 3) ≤ 6 * 9 := Nat.mul_le_mul hR6 (by omega)
  exact emptyCells_l0 R C ms hR hR6 hC hb R k 0 (by omega) (by omega)
theorem ba_push (l : List UInt8) (b : UInt8) : ((⟨l.toArray⟩ : ByteArray) ++ (⟨#[b]⟩ : ByteArray)) = ⟨(l ++ [b]).toArray⟩ := by
  apply ByteArray.ext
  simp [ByteArray.data_append]
theorem ba_size (l : List UInt8) : (⟨l.toArray⟩ : ByteArray).size = l.length := by simp [ByteArray.size]
/-- The digits of a row, in the columns before j. -/
def rowB (ms : List Nat) (r j : Nat) : List UInt8 := (List.range j).map fun c => if mk ms r c = true then 49 else 48
theorem rowB_length (ms : List Nat) (r j : Nat) : (rowB ms r j).length = j := by simp [rowB]
theorem rowB_succ (ms : List Nat) (r j : Nat) : rowB ms r (j + 1) = rowB ms r j ++ [if mk ms r j = true then 49 else 48] := by
  unfold rowB
  rw [List.range_succ, List.map_append]
  rfl
/-- The text of the rows before i. -/
def txt (C : Nat) (ms : List Nat) : Nat → List UInt8
  | 0 => []
  | i + 1 => (if 0 < i then txt C ms i ++ [47] else txt C ms i) ++ rowB ms i C
theorem txt_length (C : Nat) (ms : List Nat) (i : Nat) : (txt C ms i).length ≤ i * (C + 1) := by
  induction i with
  | zero => simp [txt]
  | succ i ih =>
    rw [txt, Nat.succ_mul, List.length_append, rowB_length]
    split
    · rw [List.length_append]
      simp
      omega
    · omega
theorem join_snoc (x : List UInt8) (r : List (List UInt8)) (y sep : List UInt8) : Lib.join (x :: r ++ [y]) sep = Lib.join (x :: r) sep ++ sep ++ y := by
  rw [List.cons_append, Lib.join_cons, Lib.join_cons]
  simp [Lib.joinTail]
theorem txt_join (C : Nat) (ms : List Nat) (i : Nat) : txt C ms i = Lib.join ((List.range i).map fun r => rowB ms r C) [47] := by
  induction i with
  | zero => rfl
  | succ i ih =>
    rw [txt, List.range_succ, List.map_append, ih]
    cases i with
    | zero =>
      simp [Lib.join_one, Lib.join_nil]
    | succ i =>
      rw [if_pos (by omega), List.range_succ_eq_map, List.map_cons]
      have := join_snoc (rowB ms 0 C) (((List.range i).map Nat.succ).map fun r => rowB ms r C) (rowB ms (i + 1) C) [47]
      simpa using this.symm
theorem tableText_l0 (R C : Nat) (ms : List Nat) (hR : ms.length = R) (hR6 : R ≤ 6) (hC : C ≤ 6) (hb : ∀ x ∈ ms, x < 64) : ∀ (d k i : Nat), i + d = R → d * (C + 3) < k →
    impl_tableText.l0 k ((List.range i).map fun r => (⟨(rowB ms r C).toArray⟩ : ByteArray)) (R : Int) (i : Int) (R : Int) (C : Int) (ms.map (fun (x : Nat) => (x : Int))) = some ⟨(txt C ms R).toArray⟩ := by
  intro d
  induction d with
  | zero =>
    intro k i hi hk
    obtain ⟨k, rfl⟩ : ∃ m, k = m + 1 := ⟨k - 1, by omega⟩
    simp only [impl_tableText.l0, strings_Join.f]
    have e : i = R := by omega
    subst e
    have ej : ((List.range i).map fun r => (⟨(rowB ms r C).toArray⟩ : ByteArray)).map (·.data.toList) = (List.range i).map fun r => rowB ms r C := by
      rw [List.map_map]
      apply List.map_congr_left
      intro r _
      simp
    have es : (⟨#[47]⟩ : ByteArray).data.toList = [47] := rfl
    have hlen := txt_length C ms i
    have hm : i * (C + 1) ≤ 6 * 7 := Nat.mul_le_mul hR6 (by omega)
    rw [if_neg (by omega), ej, ← txt_join, if_pos ⟨by simp; omega, by omega⟩]
    rfl
  | succ d ih =>
    intro k i hi hk
    rw [Nat.succ_mul] at hk
    obtain ⟨k, rfl⟩ : ∃ m, k = m + 1 := ⟨k - 1, by omega⟩
    simp only [impl_tableText.l0]
    rw [if_pos (by omega)]
    have inner : ∀ (e k j : Nat), j + e = C → d * (C + 3) + 1 + e < k → impl_tableText.l1 k ((List.range i).map fun r => (⟨(rowB ms r C).toArray⟩ : ByteArray)) (i : Int) (⟨(rowB ms i j).toArray⟩ : ByteArray) (R : Int) (i : Int) (C : Int) (j : Int) (R : Int) (C : Int) (ms.map (fun (x : Nat) => (x : Int))) = some ⟨(txt C ms R).toArray⟩ := by
      intro e
      induction e with
      | zero =>
        intro k j hj hk
        obtain ⟨k, rfl⟩ : ∃ m, k = m + 1 := ⟨k - 1, by omega⟩
        simp only [impl_tableText.l1]
        have e2 : j = C := by omega
        subst e2
        have next := ih k (i + 1) (by omega) (by omega)
        rw [List.range_succ, List.map_append] at next
        rw [if_neg (by omega), if_pos (by simp; omega), wrap_ok (by omega) (by omega), show ((i : Int) + 1) = ((i + 1 : Nat) : Int) by omega]
        exact next
      | succ e ihe =>
        intro k j hj hk
        obtain ⟨k, rfl⟩ : ∃ m, k = m + 1 := ⟨k - 1, by omega⟩
        simp only [impl_tableText.l1]
        have next := ihe k (j + 1) (by omega) (by omega)
        rw [rowB_succ] at next
        rw [if_pos (by omega), marked_k (R : Int) (C : Int) ms i j hb (by omega) (by omega), ba_push, ba_push, ba_size, rowB_length, if_pos (by omega), wrap_ok (by omega) (by omega), show ((j : Int) + 1) = ((j + 1 : Nat) : Int) by omega]
        simp only [Option.bind_some]
        cases h : mk ms i j
        · rw [if_neg (by simp), if_pos (by omega)]
          rw [h] at next
          exact next
        · rw [if_pos rfl]
          rw [h] at next
          exact next
    exact inner C k 0 (by omega) (by omega)
theorem tableText_k (R C : Nat) (ms : List Nat) (hR : ms.length = R) (hR6 : R ≤ 6) (hC : C ≤ 6) (hb : ∀ x ∈ ms, x < 64) (k : Nat) (hk : 60 < k) :
    impl_tableText.f k (R : Int) (C : Int) (ms.map (fun (x : Nat) => (x : Int))) = some ⟨(txt C ms R).toArray⟩ := by
  unfold impl_tableText.f
  have hm : R * (C + 3) ≤ 6 * 9 := Nat.mul_le_mul hR6 (by omega)
  exact tableText_l0 R C ms hR hR6 hC hb R k 0 (by omega) (by omega)
theorem feText_l0 (R C : Nat) (ms : List Nat) (hR : ms.length = R) (hR6 : R ≤ 6) (hC : C ≤ 6) (hb : ∀ x ∈ ms, x < 64) : ∀ (d k i : Nat), i + d = R → d * (C + 4) < k →
    spec_feText.l0 k (⟨(txt C ms i).toArray⟩ : ByteArray) (ms.map (fun (x : Nat) => (x : Int))) (R : Int) (i : Int) (R : Int) (C : Int) (ms.map (fun (x : Nat) => (x : Int))) = some ⟨(txt C ms R).toArray⟩ := by
  intro d
  have lm : ((ms.map (fun (x : Nat) => (x : Int))).length : Int) = (R : Int) := by simp [hR]
  induction d with
  | zero =>
    intro k i hi hk
    obtain ⟨k, rfl⟩ : ∃ m, k = m + 1 := ⟨k - 1, by omega⟩
    simp only [spec_feText.l0]
    have e : i = R := by omega
    rw [if_neg (by omega), e]
  | succ d ih =>
    intro k i hi hk
    rw [Nat.succ_mul] at hk
    obtain ⟨k, rfl⟩ : ∃ m, k = m + 2 := ⟨k - 2, by omega⟩
    have hlen := txt_length C ms i
    have hm : i * (C + 1) ≤ 6 * 7 := Nat.mul_le_mul (by omega) (by omega)
    have a1 := getD_lt (b := 64) (by omega) hb i
    have inner : ∀ (e k j : Nat), j + e = C → d * (C + 4) + 1 + e < k → spec_feText.l1 k (⟨((if 0 < i then txt C ms i ++ [47] else txt C ms i) ++ rowB ms i j).toArray⟩ : ByteArray) ((ms.getD i 0 : Nat) : Int) (j : Int) (ms.map (fun (x : Nat) => (x : Int))) (R : Int) (i : Int) (R : Int) (C : Int) (ms.map (fun (x : Nat) => (x : Int))) = some ⟨(txt C ms R).toArray⟩ := by
      intro e
      induction e with
      | zero =>
        intro k j hj hk
        obtain ⟨k, rfl⟩ : ∃ m, k = m + 1 := ⟨k - 1, by omega⟩
        simp only [spec_feText.l1]
        have e2 : j = C := by omega
        subst e2
        rw [if_neg (by omega), wrap_ok (by omega) (by omega), show ((i : Int) + 1) = ((i + 1 : Nat) : Int) by omega]
        exact ih k (i + 1) (by omega) (by omega)
      | succ e ihe =>
        intro k j hj hk
        obtain ⟨k, rfl⟩ : ∃ m, k = m + 1 := ⟨k - 1, by omega⟩
        simp only [spec_feText.l1]
        have next := ihe k (j + 1) (by omega) (by omega)
        rw [rowB_succ, ← List.append_assoc] at next
        have em : (ms.getD i 0).testBit j = mk ms i j := rfl
        have hl2 : ((if 0 < i then txt C ms i ++ [47] else txt C ms i) ++ rowB ms i j).length ≤ 100 := by
          rw [List.length_append, rowB_length]
          split
          · rw [List.length_append]
            simp
            omega
          · omega
        rw [if_pos (by omega), orHas_k _ j (by omega), em, ba_push, ba_push, ba_size, if_pos (by omega), wrap_ok (by omega) (by omega), show ((j : Int) + 1) = ((j + 1 : Nat) : Int) by omega]
        simp only [Option.bind_some]
        cases h : mk ms i j
        · rw [if_neg (by simp), if_pos (by omega)]
          rw [h] at next
          exact next
        · rw [if_pos rfl]
          rw [h] at next
          exact next
    have start := inner C k 0 (by omega) (by omega)
    have e0 : rowB ms i 0 = [] := rfl
    rw [e0, List.append_nil] at start
    rw [spec_feText.l0, if_pos (by omega), if_pos (by omega), if_pos (by omega), rd_map]
    by_cases h0 : 0 < i
    · rw [if_pos h0] at start
      rw [if_pos (by omega), ba_size, if_pos (by omega), ba_push, spec_feText.j1]
      exact start
    · rw [if_neg h0] at start
      rw [if_neg (by omega), spec_feText.j1]
      exact start
theorem feText_k (R C : Nat) (ms : List Nat) (hR : ms.length = R) (hR6 : R ≤ 6) (hC : C ≤ 6) (hb : ∀ x ∈ ms, x < 64) (k : Nat) (hk : 70 < k) :
    spec_feText.f k (R : Int) (C : Int) (ms.map (fun (x : Nat) => (x : Int))) = some ⟨(txt C ms R).toArray⟩ := by
  unfold spec_feText.f
  have lm : ((ms.map (fun (x : Nat) => (x : Int))).length : Int) = (R : Int) := by simp [hR]
  have hm : R * (C + 4) ≤ 6 * 10 := Nat.mul_le_mul hR6 (by omega)
  rw [lm]
  exact feText_l0 R C ms hR hR6 hC hb R k 0 (by omega) (by omega)

/-- Is a row's number at least a column's? -/
def scP (A B : List Int) (r c : Nat) : Bool := decide (rd B (c : Int) ≤ rd A (r : Int))
theorem scales_l0 (A B : List Int) (hA : A.length ≤ 6) (hB : B.length ≤ 6) : ∀ (d k i : Nat) (out : List Int), i + d = A.length → d * (B.length + 3) < k → out = (List.range i).map (fun r => ((bitsum (scP A B r) B.length : Nat) : Int)) →
    spec_TableOfScales.l0 k B A (A.length : Int) (i : Int) (A.length : Int) (B.length : Int) out = some ((A.length : Int), (B.length : Int), relList A.length B.length (scP A B), true) := by
  intro d
  induction d with
  | zero =>
    intro k i out hi hk ho
    obtain ⟨k, rfl⟩ : ∃ m, k = m + 1 := ⟨k - 1, by omega⟩
    simp only [spec_TableOfScales.l0]
    have e : i = A.length := by omega
    rw [if_neg (by omega), ho, e]
    rfl
  | succ d ih =>
    intro k i out hi hk ho
    rw [Nat.succ_mul] at hk
    obtain ⟨k, rfl⟩ : ∃ m, k = m + 1 := ⟨k - 1, by omega⟩
    simp only [spec_TableOfScales.l0]
    rw [if_pos (by omega), if_pos (by omega), if_pos (by omega)]
    have inner : ∀ (e k j : Nat), j + e = B.length → d * (B.length + 3) + 1 + e < k → spec_TableOfScales.l1 k B (rd A (i : Int)) ((bitsum (scP A B i) j : Nat) : Int) A (A.length : Int) (i : Int) B (B.length : Int) (j : Int) (A.length : Int) (B.length : Int) out = some ((A.length : Int), (B.length : Int), relList A.length B.length (scP A B), true) := by
      intro e
      induction e with
      | zero =>
        intro k j hj hk
        obtain ⟨k, rfl⟩ : ∃ m, k = m + 1 := ⟨k - 1, by omega⟩
        simp only [spec_TableOfScales.l1]
        have e1 : ((i : Int) + 1) = ((i + 1 : Nat) : Int) := by omega
        have e2 : j = B.length := by omega
        have ol : out.length = i := by rw [ho]; simp
        rw [if_neg (by omega), if_pos (by omega), wrap_ok (by omega) (by omega), e1]
        refine ih k (i + 1) _ (by omega) (by omega) ?_
        rw [ho, List.range_succ, List.map_append, e2]
        rfl
      | succ e ihe =>
        intro k j hj hk
        obtain ⟨k, rfl⟩ : ∃ m, k = m + 1 := ⟨k - 1, by omega⟩
        simp only [spec_TableOfScales.l1]
        have e1 : ((j : Int) + 1) = ((j + 1 : Nat) : Int) := by omega
        have next := ihe k (j + 1) (by omega) (by omega)
        rw [if_pos (by omega), if_pos (by omega), if_pos (by omega), wrap_ok (by omega) (by omega), e1]
        by_cases hp : rd B (j : Int) ≤ rd A (i : Int)
        · rw [if_pos hp, or_shl _ j (Nat.lt_of_lt_of_le (bitsum_lt (scP A B i) j) (Nat.pow_le_pow_right (by omega) (by omega))) (by omega)]
          have e2 : bitsum (scP A B i) (j + 1) = bitsum (scP A B i) j ||| 2 ^ j := by simp [bitsum, scP, hp]
          rw [← e2]
          exact next
        · rw [if_neg hp]
          have e2 : bitsum (scP A B i) (j + 1) = bitsum (scP A B i) j := by simp [bitsum, scP, hp]
          rw [← e2]
          exact next
    have := inner B.length k 0 (by omega) (by omega)
    simpa [bitsum] using this

theorem and255 (x : Int) : 0 ≤ Go.bits .and .u64 x 255 ∧ Go.bits .and .u64 x 255 < 256 := by
  unfold Go.bits
  show 0 ≤ IntKind.u64.wrap (((BitVec.ofInt 64 x &&& BitVec.ofInt 64 255).toNat : Nat) : Int) ∧ IntKind.u64.wrap (((BitVec.ofInt 64 x &&& BitVec.ofInt 64 255).toNat : Nat) : Int) < 256
  have h : (BitVec.ofInt 64 x &&& BitVec.ofInt 64 255).toNat ≤ 255 := by
    rw [BitVec.toNat_and]
    exact Nat.and_le_right
  rw [IntKind.wrap_u64]
  omega
theorem rd_byte (s : List Int) (hb : ∀ x ∈ s, 0 ≤ x ∧ x < 256) (p : Int) (h0 : 0 ≤ p) (h1 : p < s.length) : 0 ≤ rd s p ∧ rd s p < 256 := by
  obtain ⟨n, rfl⟩ := Int.eq_ofNat_of_zero_le h0
  have hn : n < s.length := by omega
  have e : rd s ((n : Nat) : Int) = s[n] := by
    rw [rd_nat, List.getD_eq_getElem?_getD, List.getElem?_eq_getElem hn]
    rfl
  show 0 ≤ rd s ((n : Nat) : Int) ∧ rd s ((n : Nat) : Int) < 256
  rw [e]
  exact hb _ (List.getElem_mem hn)
theorem next_ok (s : List Int) (hs : s.length ≤ 1048576) (hb : ∀ x ∈ s, 0 ≤ x ∧ x < 256) (p h : Int) (h0 : 0 ≤ p) (h1 : p ≤ 1000000000) : ∃ v h', spec_l1Cur_next.f s p h = some (v, p + 1, h') ∧ 0 ≤ v ∧ v < 256 := by
  have w : wrap64 (p + 1) = p + 1 := wrap_ok (by omega) (by omega)
  unfold spec_l1Cur_next.f
  rw [w]
  by_cases hp : p < (s.length : Int)
  · have hv := rd_byte s hb p h0 hp
    rw [if_pos hp, if_pos h0, if_pos (by omega), wrap_ok (x := rd s p) (by omega) (by omega)]
    exact ⟨_, _, rfl, hv.1, hv.2⟩
  · rw [if_neg hp, if_neg (by omega)]
    refine ⟨_, _, rfl, ?_⟩
    have := and255 ((IntKind.u64.wrap ((IntKind.u64.wrap ((IntKind.u64.wrap (h * 6364136223846793005)) + 0)) + 1442695040888963407)) / 1099511627776)
    rw [wrap_ok (by omega) (by omega)]
    exact this
theorem pick_ok (s : List Int) (hs : s.length ≤ 1048576) (hb : ∀ x ∈ s, 0 ≤ x ∧ x < 256) (p h a : Int) (h0 : 0 ≤ p) (h1 : p ≤ 900000000) : ∃ v p' h', spec_l1Cur_pick.f s p h a = some (v, p', h') ∧ 0 ≤ v ∧ (1 < a → v < a) ∧ (a ≤ 1 → v = 0) ∧ p ≤ p' ∧ p' ≤ p + 2 := by
  unfold spec_l1Cur_pick.f
  by_cases ha : a ≤ 1
  · rw [if_pos ha]
    exact ⟨0, p, h, rfl, by omega, by omega, fun _ => rfl, by omega, by omega⟩
  · rw [if_neg ha]
    obtain ⟨v, h', e, hv0, hv1⟩ := next_ok s hs hb p h h0 (by omega)
    rw [e]
    simp only [Option.bind_some]
    by_cases h2 : a > 200
    · rw [if_pos h2]
      obtain ⟨v2, h3, e2, hw0, hw1⟩ := next_ok s hs hb (p + 1) h' (by omega) (by omega)
      rw [e2]
      simp only [Option.bind_some]
      rw [if_neg (by omega), wrap_ok (x := v * 256) (by omega) (by omega), wrap_ok (by omega) (by omega)]
      exact ⟨_, _, _, rfl, Int.tmod_nonneg _ (by omega), fun _ => Int.tmod_lt_of_pos _ (by omega), fun h => absurd h ha, by omega, by omega⟩
    · rw [if_neg h2, if_neg (by omega)]
      exact ⟨_, _, _, rfl, Int.tmod_nonneg _ (by omega), fun _ => Int.tmod_lt_of_pos _ (by omega), fun h => absurd h ha, by omega, by omega⟩
theorem one_ok (s : List Int) (hs : s.length ≤ 1048576) (hb : ∀ x ∈ s, 0 ≤ x ∧ x < 256) (p h a : Int) (h0 : 0 ≤ p) (h1 : p ≤ 900000000) : ∃ v p' h', spec_l1Cur_one.f s p h a = some (v, p', h') ∧ p ≤ p' ∧ p' ≤ p + 2 := by
  unfold spec_l1Cur_one.f
  obtain ⟨v, p', h', e, _, _, _, e3, e4⟩ := pick_ok s hs hb p h a h0 h1
  rw [e]
  exact ⟨_, _, _, rfl, e3, e4⟩
theorem among_ok (s : List Int) (hs : s.length ≤ 1048576) (hb : ∀ x ∈ s, 0 ≤ x ∧ x < 256) (p h : Int) (l : List Int) (hl : 1 ≤ l.length) (h0 : 0 ≤ p) (h1 : p ≤ 900000000) : ∃ v p' h', spec_l1Cur_among.f s p h l = some (v, p', h') ∧ p ≤ p' ∧ p' ≤ p + 2 := by
  unfold spec_l1Cur_among.f
  obtain ⟨v, p', h', e, e0, e1, e2, e3, e4⟩ := pick_ok s hs hb p h (l.length : Int) h0 h1
  rw [e]
  simp only [Option.bind_some]
  rw [if_pos e0, if_pos (by by_cases h : 1 < (l.length : Int); exact e1 h; have := e2 (by omega); omega)]
  exact ⟨_, _, _, rfl, e3, e4⟩

/-- What a drawn table is known to be: of at most six rows. -/
def TabOutB (Bd p1 : Int) (x : Option (Int × Int × List Int × Int × Int)) : Prop := ∃ R C M p' h', x = some (R, C, M, p', h') ∧ M.length ≤ 6 ∧ p1 ≤ p' ∧ p' ≤ Bd
theorem table_j4B (Bd : Int) (hBd : Bd ≤ 100000) (s : List Int) (hs : s.length ≤ 1048576) (hb : ∀ x ∈ s, 0 ≤ x ∧ x < 256) (k : Nat) (hk : 0 < k) (x3 x4 p h a b : Int) (M : List Int) (h4 : 0 ≤ x4) (h0 : 0 ≤ p) (h1 : p ≤ Bd - 10) (hM0 : 1 ≤ M.length) (hM : M.length ≤ 6) : TabOutB Bd p (spec_l1Cur_table.j4 k x3 x4 s p h a b M) := by
  obtain ⟨k, rfl⟩ : ∃ m, k = m + 1 := ⟨k - 1, by omega⟩
  obtain ⟨v, p1, g1, e, e0, e1, e2, e3, e4⟩ := pick_ok s hs hb p h 24 h0 (by omega)
  rw [spec_l1Cur_table.j4, e]
  simp only [Option.bind_some]
  split
  · obtain ⟨v', p', h', z, z1, z2⟩ := among_ok s hs hb p1 g1 [(-1), 0, shl .i64 1 x4, wrap64 ((shl .i64 1 x4) - 1)] (by simp) (by omega) (by omega)
    first | rw [if_pos h4, z] | rw [z]
    simp only [Option.bind_some]
    rw [if_pos (by omega)]
    exact ⟨_, _, _, _, _, rfl, by rw [List.length_set]; exact hM, by omega, by omega⟩
  · split
    · obtain ⟨v', p', h', z, z1, z2⟩ := among_ok s hs hb p1 g1 [0, (-1), wrap64 (x3 + 1), 7] (by simp) (by omega) (by omega)
      rw [z]
      simp only [Option.bind_some]
      exact ⟨_, _, _, _, _, rfl, hM, by omega, by omega⟩
    · split
      · obtain ⟨v', p', h', z, z1, z2⟩ := among_ok s hs hb p1 g1 [0, (-1), wrap64 (x4 + 1), 7] (by simp) (by omega) (by omega)
        rw [z]
        simp only [Option.bind_some]
        exact ⟨_, _, _, _, _, rfl, hM, by omega, by omega⟩
      · split
        · obtain ⟨v', p', h', z, _, _, _, z1, z2⟩ := pick_ok s hs hb p1 g1 64 (by omega) (by omega)
          rw [z]
          simp only [Option.bind_some]
          exact ⟨_, _, _, _, _, rfl, by simp, by omega, by omega⟩
        · exact ⟨_, _, _, _, _, rfl, hM, by omega, by omega⟩
theorem table_l3B (Bd : Int) (hBd : Bd ≤ 100000) (s : List Int) (hs : s.length ≤ 1048576) (hb : ∀ x ∈ s, 0 ≤ x ∧ x < 256) (n m : Nat) (hn0 : 1 ≤ n) (hn : n ≤ 4) (hm0 : 1 ≤ m) (hm : m ≤ 4) (A : List Int) (hA : A.length = n) (hA2 : ∀ x ∈ A, 0 ≤ x ∧ x ≤ 99) : ∀ (d k i : Nat) (B : List Int) (p h : Int), B.length = i → (∀ x ∈ B, 0 ≤ x ∧ x ≤ 99) → i + d = m → 100 + d < k → 0 ≤ p → p + 2 * d ≤ Bd - 100 → TabOutB Bd p (spec_l1Cur_table.l3 k (n : Int) (m : Int) A B (i : Int) s p h) := by
  intro d
  induction d with
  | zero =>
    intro k i B p h hB hB2 hi hk h0 h1
    obtain ⟨k, rfl⟩ : ∃ m, k = m + 1 := ⟨k - 1, by omega⟩
    rw [spec_l1Cur_table.l3, if_neg (by omega)]
    have a1 : allIn A 0 99 = true := (allIn_iff A 0 99).2 hA2
    have a2 : allIn B 0 99 = true := (allIn_iff B 0 99).2 hB2
    have hAB : A.length * (B.length + 3) ≤ 6 * 9 := Nat.mul_le_mul (by omega) (by omega)
    have e : spec_TableOfScales.f k A B = some ((A.length : Int), (B.length : Int), relList A.length B.length (scP A B), true) := by
      unfold spec_TableOfScales.f
      have c1 : 1 ≤ (A.length : Int) ∧ (A.length : Int) ≤ 6 := ⟨by omega, by omega⟩
      have c2 : 1 ≤ (B.length : Int) ∧ (B.length : Int) ≤ 6 := ⟨by omega, by omega⟩
      rw [l1In_eq, decide_eq_true c1]
      simp only [Option.bind_some, if_true]
      rw [l1In_eq, decide_eq_true c2]
      simp only [Option.bind_some, if_true]
      rw [l1All_k A 0 99 (by omega) k (by omega), a1]
      simp only [Option.bind_some, if_true]
      rw [l1All_k B 0 99 (by omega) k (by omega), a2]
      simp only [Option.bind_some]
      obtain ⟨k, rfl⟩ : ∃ m, k = m + 1 := ⟨k - 1, by omega⟩
      simp only [spec_TableOfScales.j0, Bool.not_true, Bool.false_eq_true, if_false]
      exact scales_l0 A B (by omega) (by omega) A.length k 0 [] (by omega) (by omega) (by simp)
    rw [e]
    simp only [Option.bind_some]
    exact table_j4B Bd hBd s hs hb k (by omega) _ _ p h _ _ _ (by omega) h0 (by omega) (by rw [relList_length]; omega) (by rw [relList_length]; omega)
  | succ d ih =>
    intro k i B p h hB hB2 hi hk h0 h1
    obtain ⟨k, rfl⟩ : ∃ m, k = m + 1 := ⟨k - 1, by omega⟩
    obtain ⟨v, p1, g1, e, e0, e1, e2, e3, e4⟩ := pick_ok s hs hb p h 6 h0 (by omega)
    rw [spec_l1Cur_table.l3, if_pos (by omega), e]
    simp only [Option.bind_some]
    rw [if_pos (by omega), wrap_ok (by omega) (by omega), show ((i : Int) + 1) = ((i + 1 : Nat) : Int) by omega]
    obtain ⟨R, C, M, p', h', z, z1, z2, z3⟩ := ih k (i + 1) (B ++ [v]) p1 g1 (by simp; omega) (fun x hx => by
      rcases List.mem_append.1 hx with h | h
      · exact hB2 x h
      · have : x = v := by simpa using h
        have := e1 (by omega)
        omega) (by omega) (by omega) (by omega) (by omega)
    exact ⟨R, C, M, p', h', z, z1, by omega, z3⟩
theorem table_l2B (Bd : Int) (hBd : Bd ≤ 100000) (s : List Int) (hs : s.length ≤ 1048576) (hb : ∀ x ∈ s, 0 ≤ x ∧ x < 256) (n m : Nat) (hn0 : 1 ≤ n) (hn : n ≤ 4) (hm0 : 1 ≤ m) (hm : m ≤ 4) : ∀ (d k i : Nat) (A : List Int) (p h : Int), A.length = i → (∀ x ∈ A, 0 ≤ x ∧ x ≤ 99) → i + d = n → 110 + d < k → 0 ≤ p → p + 2 * d ≤ Bd - 120 → TabOutB Bd p (spec_l1Cur_table.l2 k (n : Int) (m : Int) A (i : Int) s p h) := by
  intro d
  induction d with
  | zero =>
    intro k i A p h hA hA2 hi hk h0 h1
    obtain ⟨k, rfl⟩ : ∃ m, k = m + 1 := ⟨k - 1, by omega⟩
    rw [spec_l1Cur_table.l2, if_neg (by omega)]
    exact table_l3B Bd hBd s hs hb n m hn0 hn hm0 hm A (by omega) hA2 m k 0 [] p h rfl (by simp) (by omega) (by omega) h0 (by omega)
  | succ d ih =>
    intro k i A p h hA hA2 hi hk h0 h1
    obtain ⟨k, rfl⟩ : ∃ m, k = m + 1 := ⟨k - 1, by omega⟩
    obtain ⟨v, p1, g1, e, e0, e1, e2, e3, e4⟩ := pick_ok s hs hb p h 6 h0 (by omega)
    rw [spec_l1Cur_table.l2, if_pos (by omega), e]
    simp only [Option.bind_some]
    rw [if_pos (by omega), wrap_ok (by omega) (by omega), show ((i : Int) + 1) = ((i + 1 : Nat) : Int) by omega]
    obtain ⟨R, C, M, p', h', z, z1, z2, z3⟩ := ih k (i + 1) (A ++ [v]) p1 g1 (by simp; omega) (fun x hx => by
      rcases List.mem_append.1 hx with h | h
      · exact hA2 x h
      · have : x = v := by simpa using h
        have := e1 (by omega)
        omega) (by omega) (by omega) (by omega) (by omega)
    exact ⟨R, C, M, p', h', z, z1, by omega, z3⟩
theorem dtable_l0B (Bd : Int) (hBd : Bd ≤ 100000) (s : List Int) (hs : s.length ≤ 1048576) (hb : ∀ x ∈ s, 0 ≤ x ∧ x < 256) (n m : Nat) (hn0 : 1 ≤ n) (hn : n ≤ 4) (hm0 : 1 ≤ m) (hm : m ≤ 4) (x6 : Int) : ∀ (d k i : Nat) (M : List Int) (p h : Int), M.length = i → i + d = n → 150 + d * 10 < k → 0 ≤ p → p + 20 * d ≤ Bd - 200 → TabOutB Bd p (spec_l1Cur_table.l0 k (n : Int) (m : Int) x6 (i : Int) s p h (n : Int) (m : Int) M) := by
  intro d
  induction d with
  | zero =>
    intro k i M p h hM hi hk h0 h1
    obtain ⟨k, rfl⟩ : ∃ m, k = m + 1 := ⟨k - 1, by omega⟩
    rw [spec_l1Cur_table.l0, if_neg (by omega)]
    split
    · exact table_l2B Bd hBd s hs hb n m hn0 hn hm0 hm n k 0 [] p h rfl (by simp) (by omega) (by omega) h0 (by omega)
    · exact table_j4B Bd hBd s hs hb k (by omega) _ _ p h _ _ _ (by omega) h0 (by omega) (by omega) (by omega)
  | succ d ih =>
    intro k i M p h hM hi hk h0 h1
    obtain ⟨k, rfl⟩ : ∃ m, k = m + 1 := ⟨k - 1, by omega⟩
    rw [spec_l1Cur_table.l0, if_pos (by omega)]
    have inner : ∀ (e k j : Nat) (x8 p h : Int), j + e = m → 150 + d * 10 + 1 + e < k → 0 ≤ p → p + 4 * e + 20 * d ≤ Bd - 200 → TabOutB Bd p (spec_l1Cur_table.l1 k (n : Int) (m : Int) x6 (i : Int) x8 (j : Int) s p h (n : Int) (m : Int) M) := by
      intro e
      induction e with
      | zero =>
        intro k j x8 p h hj hk h0 h1
        obtain ⟨k, rfl⟩ : ∃ m, k = m + 1 := ⟨k - 1, by omega⟩
        rw [spec_l1Cur_table.l1, if_neg (by omega), if_pos (by omega), wrap_ok (by omega) (by omega), show ((i : Int) + 1) = ((i + 1 : Nat) : Int) by omega]
        exact ih k (i + 1) _ p h (by simp; omega) (by omega) (by omega) h0 (by omega)
      | succ e ihe =>
        intro k j x8 p h hj hk h0 h1
        obtain ⟨k, rfl⟩ : ∃ m, k = m + 1 := ⟨k - 1, by omega⟩
        obtain ⟨b2, p2, g2, o2, r2, q2⟩ := one_ok s hs hb p h 2 h0 (by omega)
        obtain ⟨b4, p4, g4, o4, r4, q4⟩ := one_ok s hs hb p h 4 h0 (by omega)
        obtain ⟨b5, p5, g5, o5, r5, q5⟩ := one_ok s hs hb p2 g2 4 (by omega) (by omega)
        have next : ∀ (x' p' h' : Int), p ≤ p' → p' ≤ p + 4 → TabOutB Bd p (spec_l1Cur_table.l1 k (n : Int) (m : Int) x6 (i : Int) x' ((j + 1 : Nat) : Int) s p' h' (n : Int) (m : Int) M) := by
          intro x' p' h' h3 h4
          obtain ⟨R, C, M, p3, h3, z, z1, z2, z3⟩ := ihe k (j + 1) x' p' h' (by omega) (by omega) (by omega) (by omega)
          exact ⟨R, C, M, p3, h3, z, z1, by omega, z3⟩
        have c1 : (0 : Int) ≤ (j : Int) := Int.natCast_nonneg j
        rw [spec_l1Cur_table.l1, if_pos (by omega), wrap_ok (by omega) (by omega), show ((j : Int) + 1) = ((j + 1 : Nat) : Int) by omega]
        simp only [o2, o4, Option.bind_some, if_pos c1]
        simp only [o5, Option.bind_some]
        repeat' split
        all_goals first
          | exact next _ p h (by omega) (by omega)
          | exact next _ p2 g2 (by omega) (by omega)
          | exact next _ p4 g4 (by omega) (by omega)
          | exact next _ p5 g5 (by omega) (by omega)
    exact inner m k 0 0 p h (by omega) (by omega) h0 (by omega)
theorem table_okB (Bd : Int) (hBd : Bd ≤ 100000) (s : List Int) (hs : s.length ≤ 1048576) (hb : ∀ x ∈ s, 0 ≤ x ∧ x < 256) (k : Nat) (hk : 300 < k) (p0 h0 : Int) (q0 : 0 ≤ p0) (q1 : p0 + 300 ≤ Bd) : TabOutB Bd p0 (spec_l1Cur_table.f k s p0 h0) := by
  unfold spec_l1Cur_table.f
  obtain ⟨v, p1, g1, e, e0, e1, e2, e3, e4⟩ := pick_ok s hs hb p0 h0 4 (by omega) (by omega)
  obtain ⟨w, p2, g2, f, f0, f1, f2, f3, f4⟩ := pick_ok s hs hb p1 g1 4 (by omega) (by omega)
  obtain ⟨x, p3, g3, o, o0, o1, o2, o3, o4⟩ := pick_ok s hs hb p2 g2 3 (by omega) (by omega)
  have v4 := e1 (by omega)
  have w4 := f1 (by omega)
  rw [e]
  simp only [Option.bind_some]
  rw [f]
  simp only [Option.bind_some]
  rw [o]
  simp only [Option.bind_some]
  obtain ⟨n, rfl⟩ := Int.eq_ofNat_of_zero_le e0
  obtain ⟨m, rfl⟩ := Int.eq_ofNat_of_zero_le f0
  rw [wrap_ok (x := 1 + (n : Int)) (by omega) (by omega), wrap_ok (x := 1 + (m : Int)) (by omega) (by omega), show (1 + (n : Int)) = ((n + 1 : Nat) : Int) by omega, show (1 + (m : Int)) = ((m + 1 : Nat) : Int) by omega]
  obtain ⟨R, C, M, p', h', z, z1, z2, z3⟩ := dtable_l0B Bd hBd s hs hb (n + 1) (m + 1) (by omega) (by omega) (by omega) (by omega) x (n + 1) k 0 [] p3 g3 rfl (by omega) (by omega) (by omega) (by omega)
  exact ⟨R, C, M, p', h', z, z1, by omega, z3⟩

/-- A text cut at a byte. -/
def spl (c : UInt8) : List UInt8 → List (List UInt8)
  | [] => [[]]
  | x :: l => if x = c then [] :: spl c l else match spl c l with
    | [] => [[x]]
    | p :: ps => (x :: p) :: ps
theorem spl_ne (c : UInt8) : ∀ l, spl c l ≠ []
  | [] => by simp [spl]
  | x :: l => by
    unfold spl
    split
    · simp
    · split <;> simp
theorem spl_free (c : UInt8) : ∀ l : List UInt8, c ∉ l → spl c l = [l]
  | [], _ => rfl
  | x :: l, h => by
    simp only [List.mem_cons, not_or] at h
    unfold spl
    rw [if_neg (Ne.symm h.1), spl_free c l h.2]
theorem spl_app (c : UInt8) : ∀ (p l : List UInt8), c ∉ p → spl c (p ++ c :: l) = p :: spl c l
  | [], l, _ => by simp [spl]
  | x :: p, l, h => by
    simp only [List.mem_cons, not_or] at h
    rw [List.cons_append]
    simp only [spl, if_neg (Ne.symm h.1), spl_app c p l h.2]
theorem join_cc (p q : List UInt8) (r : List (List UInt8)) (c : UInt8) : Lib.join (p :: q :: r) [c] = p ++ c :: Lib.join (q :: r) [c] := by
  rw [Lib.join_cons, Lib.join_cons]
  simp [Lib.joinTail]
/-- A list of texts without the byte is what its join is cut into. -/
theorem spl_join (c : UInt8) : ∀ (ps : List (List UInt8)), ps ≠ [] → (∀ p ∈ ps, c ∉ p) → spl c (Lib.join ps [c]) = ps
  | [], h, _ => absurd rfl h
  | [p], _, h => by rw [Lib.join_one]; exact spl_free c p (h p (by simp))
  | p :: q :: r, _, h => by
    rw [join_cc, spl_app c p _ (h p (by simp)), spl_join c (q :: r) (by simp) (fun x hx => h x (List.mem_cons_of_mem _ hx))]
theorem splitK_spl (c : UInt8) : ∀ (n : Nat) (s : List UInt8), Lib.count s [c] = n → Lib.splitK [c] 0 n s = spl c s
  | 0, s, h => by
    rw [Lib.count_one, List.count_eq_zero] at h
    rw [spl_free c s h]
    rfl
  | n + 1, s, h => by
    rcases Lib.index_spec s [c] with ⟨h1, _⟩ | ⟨i, h1, h2, h3, h4⟩
    · rw [Lib.count_miss h1] at h
      omega
    · have h5 := Lib.count_hit (by simp) h1
      rw [h] at h5
      have h6 : Lib.count (s.drop (i + 1)) [c] = n := by simp only [List.length_cons, List.length_nil, Nat.zero_add] at h5; omega
      have h7 := Lib.occAt_head rfl h3
      have hi : i < s.length := (List.getElem?_eq_some_iff.1 h7).1
      have hsi : s[i] = c := (List.getElem?_eq_some_iff.1 h7).2
      have e1 : s = s.take i ++ c :: s.drop (i + 1) := by
        have := List.take_append_drop i s
        rw [List.drop_eq_getElem_cons hi, hsi] at this
        exact this.symm
      have e2 : c ∉ s.take i := by
        intro hm
        obtain ⟨j, hj, hjc⟩ := List.mem_iff_getElem.1 hm
        rw [List.length_take] at hj
        have hj2 : j < i := by omega
        rw [List.getElem_take] at hjc
        have := h4 j hj2
        rw [Lib.occAt_iff_take s [c] j (by simp; omega)] at this
        simp only [List.length_cons, List.length_nil, Nat.zero_add] at this
        rw [List.drop_eq_getElem_cons (by omega), List.take_succ_cons, List.take_zero, hjc] at this
        simp at this
      unfold Lib.splitK
      rw [if_neg (by rw [h1]; intro h; have := eq_of_beq h; omega), h1]
      have e3 : ((i : Int)).toNat = i := by omega
      rw [e3]
      simp only [Nat.add_zero, List.length_cons, List.length_nil, Nat.zero_add]
      rw [splitK_spl c n _ h6]
      conv => rhs; rw [e1]
      rw [spl_app c _ _ e2]
def toBA (p : List UInt8) : ByteArray := ⟨p.toArray⟩
theorem toBA_data (s : ByteArray) : toBA s.data.toList = s := by
  apply ByteArray.ext
  simp [toBA]
theorem toBA_list (p : List UInt8) : (toBA p).data.toList = p := by simp [toBA]
theorem toBA_size (p : List UInt8) : (toBA p).size = p.length := rfl
theorem splitB_spl (c : UInt8) (s : ByteArray) : Lib.splitB ⟨#[c]⟩ 0 (Lib.countB s ⟨#[c]⟩) s = (spl c s.data.toList).map toBA := by
  have h := Lib.splitB_data ⟨#[c]⟩ 0 (Lib.countB s ⟨#[c]⟩) s
  have h2 : Lib.splitK [c] 0 (Lib.countB s ⟨#[c]⟩) s.data.toList = spl c s.data.toList := splitK_spl c _ _ rfl
  rw [show (⟨#[c]⟩ : ByteArray).data.toList = [c] from rfl, h2] at h
  rw [← h, List.map_map]
  have : (toBA ∘ fun x : ByteArray => x.data.toList) = id := by
    funext x
    exact toBA_data x
  rw [this, List.map_id]
theorem extract_toBA (s : ByteArray) (a b : Nat) : s.extract a b = toBA ((s.data.toList.drop a).take (b - a)) := by
  apply ByteArray.ext
  simp [toBA, ByteArray.data_extract]
  apply Array.ext'
  simp [List.extract_eq_take_drop]
theorem bt_list (s : ByteArray) (i : Nat) (hi : i < s.size) : bt s (i : Int) = ((s.data.toList.getD i 0).toNat : Int) := by
  unfold bt
  have e : ((i : Int)).toNat = i := by omega
  rw [e]
  simp only [dif_pos hi]
  congr 2
  rw [List.getD_eq_getElem?_getD, List.getElem?_eq_getElem (by rw [Array.length_toList]; exact hi)]
  rfl

theorem rdE_map (ps : List (List UInt8)) (i : Nat) (hi : i < ps.length) : Enc.rd (ps.map toBA) (i : Int) = toBA (ps.getD i []) := by
  unfold Enc.rd
  have e : ((i : Int)).toNat = i := by omega
  rw [e, List.getD_eq_getElem?_getD, List.getElem?_map, List.getD_eq_getElem?_getD, List.getElem?_eq_getElem hi]
  rfl
theorem bt_toBA (p : List UInt8) (j : Nat) (hj : j < p.length) : bt (toBA p) (j : Int) = ((p.getD j 0).toNat : Int) := by
  rw [bt_list _ j (by rw [toBA_size]; exact hj), toBA_list]
theorem byte_eq (x : UInt8) : (((x.toNat : Nat) : Int) = 49) ↔ x = 49 := by
  constructor
  · intro h
    apply UInt8.toNat_inj.1
    show x.toNat = 49
    omega
  · rintro rfl; rfl
/-- What is marked in a piece. -/
def one1 (p : List UInt8) (j : Nat) : Bool := decide (p.getD j 0 = 49)
def valB (p : List UInt8) : Nat := bitsum (one1 p) p.length
theorem split_k (s : ByteArray) (hs : s.size < 4294967281) : strings_Split.f s (⟨#[47]⟩ : ByteArray) = some ((spl 47 s.data.toList).map toBA) := by
  unfold strings_Split.f
  rw [if_pos ⟨hs, by decide⟩, splitB_spl]
theorem list_size (s : ByteArray) : s.data.toList.length = s.size := by rw [Array.length_toList]; rfl
theorem l1Split_l0 (s : ByteArray) (hs : s.size ≤ 1048576) : ∀ (d k i a : Nat) (out : List ByteArray), i + d = s.size → d < k → a ≤ i → out.length ≤ i → 47 ∉ (s.data.toList.drop a).take (i - a) →
    spec_l1Split.l0 k s 47 out (a : Int) (i : Int) = some (out ++ (spl 47 (s.data.toList.drop a)).map toBA) := by
  intro d
  induction d with
  | zero =>
    intro k i a out hi hk ha ho hf
    obtain ⟨k, rfl⟩ : ∃ m, k = m + 1 := ⟨k - 1, by omega⟩
    have e : i = s.size := by omega
    subst e
    have e1 : (s.data.toList.drop a).take (s.size - a) = s.data.toList.drop a := by rw [List.take_of_length_le]; rw [List.length_drop, list_size]; omega
    rw [e1] at hf
    have e2 : ((a : Int)).toNat = a := by omega
    rw [spec_l1Split.l0, if_neg (by omega), if_pos (by omega), if_pos (by omega), if_pos (by omega), e2, extract_toBA, e1, spl_free 47 _ hf]
    rfl
  | succ d ih =>
    intro k i a out hi hk ha ho hf
    obtain ⟨k, rfl⟩ : ∃ m, k = m + 1 := ⟨k - 1, by omega⟩
    have hil : i < s.data.toList.length := by rw [list_size]; omega
    have e2 : ((a : Int)).toNat = a := by omega
    have e3 : ((i : Int)).toNat = i := by omega
    have e4 : wrap64 ((i : Int) + 1) = ((i + 1 : Nat) : Int) := by rw [wrap_ok (by omega) (by omega)]; omega
    have hg : s.data.toList.getD i 0 = s.data.toList[i] := by rw [List.getD_eq_getElem?_getD, List.getElem?_eq_getElem hil]; rfl
    have hdrop : (s.data.toList.drop a).drop (i - a) = s.data.toList.drop i := by rw [List.drop_drop]; congr 1; omega
    have hsp : s.data.toList.drop a = (s.data.toList.drop a).take (i - a) ++ s.data.toList[i] :: s.data.toList.drop (i + 1) := by
      have := List.take_append_drop (i - a) (s.data.toList.drop a)
      rw [hdrop, List.drop_eq_getElem_cons hil] at this
      exact this.symm
    rw [spec_l1Split.l0, if_pos (by omega), if_pos (by omega), bt_list s i (by omega), hg, e4, e2, e3]
    by_cases hb : s.data.toList[i] = 47
    · rw [hb, if_pos (by rfl), if_pos (by omega), if_pos (by omega), if_pos (by omega), if_pos (by omega)]
      rw [ih k (i + 1) (i + 1) _ (by omega) (by omega) (Nat.le_refl _) (by simp; omega) (by simp)]
      rw [hb] at hsp
      conv => rhs; rw [hsp]
      rw [spl_app 47 _ _ hf, extract_toBA]
      simp
    · have hb2 : ¬ (((s.data.toList[i].toNat : Nat) : Int) = 47) := by
        intro h
        apply hb
        apply UInt8.toNat_inj.1
        show s.data.toList[i].toNat = 47
        omega
      rw [if_neg hb2]
      refine ih k (i + 1) a out (by omega) (by omega) (by omega) (by omega) ?_
      have e5 : (s.data.toList.drop a).take (i + 1 - a) = (s.data.toList.drop a).take (i - a) ++ [s.data.toList[i]] := by
        rw [show i + 1 - a = (i - a) + 1 by omega, List.take_add_one]
        congr 1
        rw [List.getElem?_drop, show a + (i - a) = i by omega, List.getElem?_eq_getElem hil]
        rfl
      rw [e5, List.mem_append]
      rintro (h | h)
      · exact hf h
      · simp at h
        exact hb h.symm
theorem l1Split_k (s : ByteArray) (hs : s.size ≤ 1048576) (k : Nat) (hk : s.size < k) : spec_l1Split.f k s 47 = some ((spl 47 s.data.toList).map toBA) := by
  unfold spec_l1Split.f
  have := l1Split_l0 s hs s.size k 0 0 [] (by omega) hk (Nat.le_refl _) (by simp) (by simp)
  simpa using this
theorem spl_length (c : UInt8) : ∀ l : List UInt8, (spl c l).length ≤ l.length + 1
  | [] => by simp [spl]
  | x :: l => by
    have := spl_length c l
    simp only [spl]
    split
    · simp; omega
    · split
      · simp
      · rename_i p ps h
        rw [h] at this
        simp at this ⊢
        omega
theorem spl_lens (c : UInt8) : ∀ l : List UInt8, ∀ p ∈ spl c l, p.length ≤ l.length
  | [], p, h => by simp [spl] at h; subst h; simp
  | x :: l, p, h => by
    have ih := spl_lens c l
    simp only [spl] at h
    split at h
    · rcases List.mem_cons.1 h with rfl | h
      · simp
      · have := ih p h; simp; omega
    · split at h
      · simp at h; subst h; simp
      · rename_i q qs hq
        rcases List.mem_cons.1 h with rfl | h
        · have := ih q (by rw [hq]; simp); simp; omega
        · have := ih p (by rw [hq]; simp [h]); simp; omega
/-- A table in numbers. -/
def Tb (r c : Nat) (ms : List Nat) : Prop := 1 ≤ r ∧ r ≤ 6 ∧ 1 ≤ c ∧ c ≤ 6 ∧ ms.length = r ∧ ∀ x ∈ ms, x < 2 ^ c
theorem Tb.tab {r c : Nat} {ms : List Nat} (h : Tb r c ms) : isTab (r : Int) (c : Int) (ms.map (fun (x : Nat) => (x : Int))) = true :=
  (isTab_iff _ _ _).2 ⟨r, c, ms, rfl, rfl, rfl, h⟩
theorem Tb.lt64 {r c : Nat} {ms : List Nat} (h : Tb r c ms) : ∀ x ∈ ms, x < 64 := fun x hx => Nat.lt_of_lt_of_le (h.2.2.2.2.2 x hx) (Nat.pow_le_pow_right (n := 2) (by omega) h.2.2.2.1)
theorem bitsum_self (m c : Nat) (hm : m < 2 ^ c) : bitsum (fun j => m.testBit j) c = m := by
  apply Nat.eq_of_testBit_eq
  intro i
  rw [bitsum_bit]
  by_cases hi : i < c
  · simp [hi]
  · have : m.testBit i = false := Nat.testBit_lt_two_pow (Nat.lt_of_lt_of_le hm (Nat.pow_le_pow_right (by omega) (by omega)))
    simp [this]
/-- The marks, read again. -/
theorem relList_self {r c : Nat} {ms : List Nat} (h : Tb r c ms) {p : Nat → Nat → Bool} (hp : ∀ i j, i < r → j < c → p i j = mk ms i j) : relList r c p = ms.map (fun (x : Nat) => (x : Int)) := by
  obtain ⟨h1, h2, h3, h4, h5, h6⟩ := h
  unfold relList
  apply List.ext_getElem
  · simp [h5]
  · intro i hi hi2
    simp only [List.getElem_map, List.getElem_range]
    simp only [List.length_map, List.length_range] at hi hi2
    rw [bitsum_congr c (fun j hj => hp i j hi hj)]
    have e : ms.getD i 0 = ms[i] := by rw [List.getD_eq_getElem?_getD, List.getElem?_eq_getElem (by omega)]; rfl
    show ((bitsum (fun j => (ms.getD i 0).testBit j) c : Nat) : Int) = _
    rw [e, bitsum_self _ c (h6 _ (List.getElem_mem _))]
theorem rowB_free (ms : List Nat) (r c : Nat) : (47 : UInt8) ∉ rowB ms r c := by
  unfold rowB
  intro h
  obtain ⟨j, _, h2⟩ := List.mem_map.1 h
  split at h2
  · exact absurd h2 (by decide)
  · exact absurd h2 (by decide)
theorem rowB_at (ms : List Nat) (r c j : Nat) (hj : j < c) : (rowB ms r c).getD j 0 = if mk ms r j = true then 49 else 48 := by
  unfold rowB
  rw [List.getD_eq_getElem?_getD, List.getElem?_map, List.getElem?_range hj]
  rfl
theorem rowB_one (ms : List Nat) (r c j : Nat) (hj : j < c) : one1 (rowB ms r c) j = mk ms r j := by
  unfold one1
  rw [rowB_at ms r c j hj]
  cases mk ms r j <;> simp
/-- The pieces of a table's text. -/
theorem spl_txt {r c : Nat} {ms : List Nat} (h : Tb r c ms) : spl 47 (txt c ms r) = (List.range r).map fun i => rowB ms i c := by
  rw [txt_join]
  apply spl_join
  · have := h.1
    intro e
    have := congrArg List.length e
    simp at this
    omega
  · intro p hp
    obtain ⟨i, _, rfl⟩ := List.mem_map.1 hp
    exact rowB_free ms i c
theorem toList_ext {a b : ByteArray} (h : a.toList = b.toList) : a = b := by
  have e : ∀ x : ByteArray, x.toList = x.data.toList := fun x => Lib.toList_data x
  rw [e, e] at h
  apply ByteArray.ext
  exact Array.ext' h
/-- The text is that of a table. -/
def IsTxt (s : ByteArray) (r c : Nat) (ms : List Nat) : Prop := Tb r c ms ∧ s = toBA (txt c ms r)
theorem range_get (r i : Nat) (hi : i < r) (f : Nat → List UInt8) : ((List.range r).map f).getD i [] = f i := by
  rw [List.getD_eq_getElem?_getD, List.getElem?_map, List.getElem?_range hi]
  rfl
theorem parse_yes (s : ByteArray) (r c : Nat) (ms : List Nat) (h : IsTxt s r c ms) (k : Nat) (hk : 200 < k) : impl_ParseTable.f k s = some ((r : Int), (c : Int), ms.map (fun (x : Nat) => (x : Int)), true) := by
  obtain ⟨hT, rfl⟩ := h
  have h64 := hT.lt64
  have htab := hT.tab
  have hself := fun p hp => relList_self hT (p := p) hp
  have hspl := spl_txt hT
  obtain ⟨h1, h2, h3, h4, h5, h6⟩ := hT
  have hlen := txt_length c ms r
  have hm : r * (c + 1) ≤ 6 * 7 := Nat.mul_le_mul h2 (by omega)
  have hm3 : r * (c + 3) ≤ 6 * 9 := Nat.mul_le_mul h2 (by omega)
  unfold impl_ParseTable.f
  rw [split_k _ (by rw [toBA_size]; omega), toBA_list, hspl]
  simp only [Option.bind_some]
  have el : ((((List.range r).map fun i => rowB ms i c).map toBA).length : Int) = (r : Int) := by simp
  have e0 : Enc.rd (((List.range r).map fun i => rowB ms i c).map toBA) 0 = toBA (rowB ms 0 c) := by
    have := rdE_map ((List.range r).map fun i => rowB ms i c) 0 (by simp; omega)
    rw [range_get r 0 (by omega)] at this
    exact this
  rw [el, if_neg (by omega), if_pos (by omega), e0, toBA_size, rowB_length, decide_eq_false (by omega)]
  obtain ⟨k, rfl⟩ : ∃ m, k = m + 1 := ⟨k - 1, by omega⟩
  rw [impl_ParseTable.j0, if_neg (by simp), el, if_pos (by omega), e0, toBA_size, rowB_length]
  rw [table_k r c (by omega) (by omega) _ (fun i j => mk ms i j) (fun i j hi hj => by
    unfold impl_ParseTable_1.f
    have e1 := rdE_map ((List.range r).map fun i => rowB ms i c) i (by simpa using hi)
    rw [range_get r i hi] at e1
    rw [el, if_pos (by omega), if_pos (by omega), e1, toBA_size, rowB_length, if_pos (by omega), if_pos (by omega), bt_toBA _ j (by rw [rowB_length]; exact hj), rowB_at ms i c j hj]
    cases mk ms i j <;> rfl) k (by omega)]
  simp only [Option.bind_some]
  rw [hself _ (fun _ _ _ _ => rfl), IsTable_k _ _ _ (by simp; omega) k (by simp; omega), htab]
  simp only [Option.bind_some, if_true]
  rw [tableText_k r c ms h5 h2 h4 h64 k (by omega)]
  simp only [Option.bind_some]
  exact if_pos rfl
theorem parse_no (s : ByteArray) (hs : s.size ≤ 1048576) (hP : ∀ r c ms, ¬ IsTxt s r c ms) (k : Nat) (hk : 2000 < k) : impl_ParseTable.f k s = some (0, 0, [], false) := by
  unfold impl_ParseTable.f
  rw [split_k s (by omega)]
  simp only [Option.bind_some]
  obtain ⟨k, rfl⟩ : ∃ m, k = m + 1 := ⟨k - 1, by omega⟩
  generalize hps : spl 47 s.data.toList = ps
  have hne : ps ≠ [] := by rw [← hps]; exact spl_ne _ _
  have hpos : 0 < ps.length := by cases ps with | nil => exact absurd rfl hne | cons => simp
  have el : (((ps.map toBA).length : Nat) : Int) = (ps.length : Int) := by simp
  have e0 : Enc.rd (ps.map toBA) 0 = toBA (ps.getD 0 []) := rdE_map ps 0 hpos
  rw [el]
  by_cases h1 : (ps.length : Int) > 6
  · rw [if_pos h1, impl_ParseTable.j0, if_pos rfl]
  rw [if_neg h1, if_pos (by omega), e0, toBA_size]
  by_cases h2 : ((ps.getD 0 []).length : Int) > 6
  · rw [decide_eq_true h2, impl_ParseTable.j0, if_pos rfl]
  rw [decide_eq_false h2, impl_ParseTable.j0, if_neg (by simp), el, if_pos (by omega), e0, toBA_size]
  have hm3 : ps.length * ((ps.getD 0 []).length + 3) ≤ 6 * 9 := Nat.mul_le_mul (by omega) (by omega)
  rw [table_k ps.length (ps.getD 0 []).length (by omega) (by omega) _ (fun i j => decide (j < (ps.getD i []).length) && one1 (ps.getD i []) j) (fun i j hi hj => by
    unfold impl_ParseTable_1.f
    have e1 := rdE_map ps i hi
    rw [el, if_pos (by omega), if_pos (by omega), e1, toBA_size]
    by_cases hj2 : j < (ps.getD i []).length
    · rw [if_pos (by omega), if_pos (by omega), bt_toBA _ j hj2]
      simp only [hj2, decide_true, Bool.true_and, one1]
      congr 1
      have := byte_eq ((ps.getD i []).getD j 0)
      by_cases hb : (ps.getD i []).getD j 0 = 49
      · rw [hb]; rfl
      · have hn := mt this.1 hb
        rw [decide_eq_false hb, beq_eq_false_iff_ne.2 hn]
    · rw [if_neg (by omega), decide_eq_false hj2, Bool.false_and]) k (by omega)]
  simp only [Option.bind_some]
  have hrl := relList_length ps.length (ps.getD 0 []).length (fun i j => decide (j < (ps.getD i []).length) && one1 (ps.getD i []) j)
  rw [IsTable_k _ _ _ (by omega) k (by omega)]
  simp only [Option.bind_some]
  cases hT : isTab (ps.length : Int) ((ps.getD 0 []).length : Int) (relList ps.length (ps.getD 0 []).length (fun i j => decide (j < (ps.getD i []).length) && one1 (ps.getD i []) j))
  · simp
  · obtain ⟨r, c, ms, er, ec, em, hTb⟩ := (isTab_iff _ _ _).1 hT
    have hT2 : Tb r c ms := hTb
    obtain ⟨q1, q2, q3, q4, q5, q6⟩ := hTb
    rw [if_pos rfl, er, ec, em, tableText_k r c ms q5 q2 q4 hT2.lt64 k (by omega)]
    simp only [Option.bind_some]
    rw [if_neg]
    intro h
    exact hP r c ms ⟨hT2, (toList_ext h).symm⟩
/-- The reference's loop over the pieces. -/
theorem sparse_l0 (B Q T : Nat) (hB : B ≤ 1048576) (hT : B + 2 ≤ T) (s : ByteArray) (ps : List (List UInt8)) (hps : ps.length ≤ B + 1) (hpl : ∀ p ∈ ps, p.length ≤ B) (R C : Int) (fin : List Int → Option (Int × Int × List Int × Bool)) (hfin : ∀ M : List Int, M.length ≤ B + 1 → ∀ k, Q < k → spec_ParseTable.l0 k s (ps.map toBA) (ps.length : Int) (ps.length : Int) R C M = fin M) :
    ∀ (d k i : Nat) (M : List Int), i + d = ps.length → d * T + Q < k → M.length = i →
    spec_ParseTable.l0 k s (ps.map toBA) (ps.length : Int) (i : Int) R C M = if (∀ p ∈ ps.drop i, p.length ≤ 6) then fin (M ++ (ps.drop i).map fun p => ((valB p : Nat) : Int)) else some (0, 0, [], false) := by
  intro d
  induction d with
  | zero =>
    intro k i M hi hk hM
    have e : i = ps.length := by omega
    subst e
    rw [Nat.zero_mul] at hk
    rw [hfin M (by omega) k (by omega), List.drop_length]
    simp
  | succ d ih =>
    intro k i M hi hk hM
    rw [Nat.succ_mul] at hk
    obtain ⟨k, rfl⟩ : ∃ m, k = m + 1 := ⟨k - 1, by omega⟩
    have hil : i < ps.length := by omega
    have e1 := rdE_map ps i hil
    have eg : ps.getD i [] = ps[i] := by rw [List.getD_eq_getElem?_getD, List.getElem?_eq_getElem hil]; rfl
    have el : (((ps.map toBA).length : Nat) : Int) = (ps.length : Int) := by simp
    have hdr : ps.drop i = ps[i] :: ps.drop (i + 1) := List.drop_eq_getElem_cons hil
    rw [spec_ParseTable.l0, if_pos (by omega), if_pos (by omega), el, if_pos (by omega), e1, eg, toBA_size, hdr]
    by_cases h6 : ((ps[i].length : Nat) : Int) > 6
    · rw [if_pos h6, if_neg]
      intro h
      have := h ps[i] List.mem_cons_self
      omega
    · rw [if_neg h6]
      have inner : ∀ (e k j : Nat), j + e = ps[i].length → d * T + Q + 1 + e < k → spec_ParseTable.l1 k s (toBA ps[i]) ((bitsum (one1 ps[i]) j : Nat) : Int) (j : Int) (ps.map toBA) (ps.length : Int) (i : Int) R C M = if (∀ p ∈ ps.drop (i + 1), p.length ≤ 6) then fin (M ++ (((valB ps[i] : Nat) : Int) :: (ps.drop (i + 1)).map fun p => ((valB p : Nat) : Int))) else some (0, 0, [], false) := by
        intro e
        induction e with
        | zero =>
          intro k j hj hk
          obtain ⟨k, rfl⟩ : ∃ m, k = m + 1 := ⟨k - 1, by omega⟩
          have ej : j = ps[i].length := by omega
          subst ej
          rw [spec_ParseTable.l1, toBA_size, if_neg (by omega), if_pos (by omega), wrap_ok (by omega) (by omega), show ((i : Int) + 1) = ((i + 1 : Nat) : Int) by omega, ih k (i + 1) _ (by omega) (by omega) (by simp; omega)]
          simp [valB]
        | succ e ihe =>
          intro k j hj hk
          obtain ⟨k, rfl⟩ : ∃ m, k = m + 1 := ⟨k - 1, by omega⟩
          have next := ihe k (j + 1) (by omega) (by omega)
          rw [spec_ParseTable.l1, toBA_size, if_pos (by omega), if_pos (by omega), bt_toBA _ j (by omega), wrap_ok (by omega) (by omega), show ((j : Int) + 1) = ((j + 1 : Nat) : Int) by omega]
          have hb := byte_eq (ps[i].getD j 0)
          by_cases h49 : ps[i].getD j 0 = 49
          · have ho : one1 ps[i] j = true := by simp only [one1, h49, decide_true]
            have e2 : bitsum (one1 ps[i]) (j + 1) = bitsum (one1 ps[i]) j ||| 2 ^ j := by simp [bitsum, ho]
            rw [if_pos (hb.2 h49), or_shl _ j (Nat.lt_of_lt_of_le (bitsum_lt _ j) (Nat.pow_le_pow_right (by omega) (by omega))) (by omega), ← e2]
            exact next
          · have ho : one1 ps[i] j = false := by simp only [one1, h49, decide_false]
            have e2 : bitsum (one1 ps[i]) (j + 1) = bitsum (one1 ps[i]) j := by simp [bitsum, ho]
            rw [if_neg (mt hb.1 h49), ← e2]
            exact next
      have start := inner ps[i].length k 0 (by omega) (by have := hpl ps[i] (List.getElem_mem _); omega)
      have e0 : ((bitsum (one1 ps[i]) 0 : Nat) : Int) = 0 := rfl
      rw [e0] at start
      rw [show ((0 : Nat) : Int) = 0 from rfl] at start
      rw [start]
      have hiff : (∀ p ∈ ps[i] :: ps.drop (i + 1), p.length ≤ 6) ↔ (∀ p ∈ ps.drop (i + 1), p.length ≤ 6) := by
        constructor
        · intro h p hp; exact h p (List.mem_cons_of_mem _ hp)
        · intro h p hp
          rcases List.mem_cons.1 hp with rfl | hp
          · omega
          · exact h p hp
      by_cases hall : ∀ p ∈ ps.drop (i + 1), p.length ≤ 6
      · rw [if_pos hall, if_pos (hiff.2 hall)]
        rfl
      · rw [if_neg hall, if_neg (mt hiff.1 hall)]
theorem sparse_fin (s : ByteArray) (x : List ByteArray) (n R C : Int) (M : List Int) (hM : M.length ≤ 1048577) (k : Nat) (hk : 1500 < k) (hk2 : M.length + 1 < k) :
    spec_ParseTable.l0 k s x n n R C M = if isTab R C M = true then ((spec_feText.f 1500 R C M).bind fun t => if t.toList = s.toList then some (R, C, M, true) else some (0, 0, [], false)) else some (0, 0, [], false) := by
  obtain ⟨k, rfl⟩ : ∃ m, k = m + 1 := ⟨k - 1, by omega⟩
  rw [spec_ParseTable.l0, if_neg (by omega), feGood_k R C M (by omega) k (by omega)]
  simp only [Option.bind_some]
  cases hT : isTab R C M
  · simp
  · obtain ⟨r, c, ms, rfl, rfl, rfl, q1, q2, q3, q4, q5, q6⟩ := (isTab_iff _ _ _).1 hT
    have h64 : ∀ y ∈ ms, y < 64 := fun y hy => Nat.lt_of_lt_of_le (q6 y hy) (Nat.pow_le_pow_right (n := 2) (by omega) q4)
    rw [feText_k r c ms q5 q2 q4 h64 k (by omega), feText_k r c ms q5 q2 q4 h64 1500 (by omega)]
theorem sparse_kB (B : Nat) (hB : B ≤ 1048576) (s : ByteArray) (hs : s.size ≤ B) (k : Nat) (hk : (B + 1) * (B + 2) + (B + 3000) < k) : (∀ r c ms, IsTxt s r c ms → spec_ParseTable.f k s = some ((r : Int), (c : Int), ms.map (fun (x : Nat) => (x : Int)), true)) ∧ ((∀ r c ms, ¬ IsTxt s r c ms) → spec_ParseTable.f k s = some (0, 0, [], false)) := by
  have hsl := spl_length 47 s.data.toList
  have hsp := spl_lens 47 s.data.toList
  rw [list_size] at hsl
  have hpl : ∀ p ∈ spl 47 s.data.toList, p.length ≤ B := fun p hp => by have := hsp p hp; rw [list_size] at this; omega
  have hne := spl_ne 47 s.data.toList
  have main : ∀ ps, spl 47 s.data.toList = ps → spec_ParseTable.f k s = if (∀ p ∈ ps, p.length ≤ 6) then (if isTab (ps.length : Int) ((ps.getD 0 []).length : Int) (ps.map fun p => ((valB p : Nat) : Int)) = true then ((spec_feText.f 1500 (ps.length : Int) ((ps.getD 0 []).length : Int) (ps.map fun p => ((valB p : Nat) : Int))).bind fun t => if t.toList = s.toList then some ((ps.length : Int), ((ps.getD 0 []).length : Int), (ps.map fun p => ((valB p : Nat) : Int)), true) else some (0, 0, [], false)) else some (0, 0, [], false)) else some (0, 0, [], false) := by
    intro ps hps
    rw [hps] at hsl hpl hne
    unfold spec_ParseTable.f
    rw [l1Split_k s (by omega) k (by omega), hps]
    simp only [Option.bind_some]
    have hpos : 0 < ps.length := by cases ps with | nil => exact absurd rfl hne | cons => simp
    have el : (((ps.map toBA).length : Nat) : Int) = (ps.length : Int) := by simp
    have e0 : Enc.rd (ps.map toBA) 0 = toBA (ps.getD 0 []) := rdE_map ps 0 hpos
    rw [el, if_pos (by omega), e0, toBA_size]
    have hd : ps.length * (B + 2) ≤ (B + 1) * (B + 2) := Nat.mul_le_mul_right _ (by omega)
    obtain ⟨Q, hQ, hQ2⟩ : ∃ Q : Nat, B + 2000 ≤ Q ∧ Q ≤ B + 2000 := ⟨B + 2000, Nat.le_refl _, Nat.le_refl _⟩
    have hfin : ∀ (M : List Int), M.length ≤ B + 1 → ∀ k, Q < k → M.length ≤ 1048577 ∧ 1500 < k ∧ M.length + 1 < k := fun M h1 k h2 => ⟨by omega, Nat.lt_of_le_of_lt (Nat.le_trans (Nat.le_trans (by decide : 1500 ≤ 2000) (Nat.le_add_left 2000 B)) hQ) h2, by omega⟩
    have := sparse_l0 B Q (B + 2) hB (Nat.le_refl _) s ps (by omega) hpl (ps.length : Int) ((ps.getD 0 []).length : Int) _ (fun M hM k hk => sparse_fin s _ _ _ _ M (hfin M hM k hk).1 k (hfin M hM k hk).2.1 (hfin M hM k hk).2.2) ps.length k 0 [] (by omega) (by omega) rfl
    simpa using this
  constructor
  · rintro r c ms ⟨hT, rfl⟩
    have hspl := spl_txt hT
    rw [toBA_list] at main
    rw [main _ hspl]
    have h64 := hT.lt64
    have htab := hT.tab
    have hself := relList_self hT (p := fun i j => mk ms i j) (fun _ _ _ _ => rfl)
    obtain ⟨h1, h2, h3, h4, h5, h6⟩ := hT
    have el : ((((List.range r).map fun i => rowB ms i c).length : Nat) : Int) = (r : Int) := by simp
    have e0 : (((((List.range r).map fun i => rowB ms i c).getD 0 []).length : Nat) : Int) = (c : Int) := by rw [range_get r 0 (by omega), rowB_length]
    have eM : (((List.range r).map fun i => rowB ms i c).map fun p => ((valB p : Nat) : Int)) = ms.map (fun (x : Nat) => (x : Int)) := by
      rw [← hself]
      unfold relList
      rw [List.map_map]
      apply List.map_congr_left
      intro i _
      simp only [Function.comp, valB, rowB_length]
      rw [bitsum_congr c (fun j hj => rowB_one ms i c j hj)]
    rw [if_pos (by
      intro p hp
      obtain ⟨i, _, rfl⟩ := List.mem_map.1 hp
      rw [rowB_length]
      exact h4), el, e0, eM, if_pos htab, feText_k r c ms h5 h2 h4 h64 1500 (by omega)]
    simp only [Option.bind_some]
    exact if_pos rfl
  · intro hP
    rw [main _ rfl]
    split
    · split
      · rename_i hT
        obtain ⟨r, c, ms, er, ec, em, hTb⟩ := (isTab_iff _ _ _).1 hT
        have hT2 : Tb r c ms := hTb
        obtain ⟨q1, q2, q3, q4, q5, q6⟩ := hTb
        rw [er, ec, em, feText_k r c ms q5 q2 q4 hT2.lt64 1500 (by omega)]
        simp only [Option.bind_some]
        rw [if_neg]
        intro h
        exact hP r c ms ⟨hT2, (toList_ext h).symm⟩
      · rfl
    · rfl
theorem sparse_k (s : ByteArray) (hs : s.size ≤ 1000) (k : Nat) (hk : 1200000 < k) : (∀ r c ms, IsTxt s r c ms → spec_ParseTable.f k s = some ((r : Int), (c : Int), ms.map (fun (x : Nat) => (x : Int)), true)) ∧ ((∀ r c ms, ¬ IsTxt s r c ms) → spec_ParseTable.f k s = some (0, 0, [], false)) := sparse_kB 1000 (by omega) s hs k (by omega)

theorem opp_1 (R C : Int) (ms : List Nat) (r c : Nat) (hb : ∀ x ∈ ms, x < 64) (hr : r < ms.length) (hc : c < 60) : impl_OppositeTable_1.f (r : Int) (c : Int) R C (ms.map (fun (x : Nat) => (x : Int))) = some (!mk ms r c) := by
  unfold impl_OppositeTable_1.f
  rw [marked_k R C ms r c hb hr hc]
  rfl
theorem opp_row (m c : Nat) (hm : m < 2 ^ c) (hc : c ≤ 6) : Go.bits .andNot .i64 (wrap64 (shl .i64 1 (c : Int) - 1)) (m : Int) = ((bitsum (fun j => !m.testBit j) c : Nat) : Int) := by
  have hp : 0 < 2 ^ c := Nat.two_pow_pos _
  have hq : 2 ^ c ≤ 2 ^ 6 := Nat.pow_le_pow_right (by omega) (by omega)
  have e5 : wrap64 (shl .i64 1 (c : Int) - 1) = ((2 ^ c - 1 : Nat) : Int) := by
    rw [shl_one c (by omega), wrap_ok (by omega) (by omega)]
    omega
  rw [e5, andNot_nat _ _ (by omega) (by omega)]
  congr 1
  apply Nat.eq_of_testBit_eq
  intro i
  rw [andn_bit, bitsum_bit, Nat.testBit_two_pow_sub_one]
theorem opp_l0 (r c : Nat) (ms : List Nat) (hr : ms.length = r) (hr6 : r ≤ 6) (hc : c ≤ 6) (hb : ∀ x ∈ ms, x < 2 ^ c) (x1 x2 : Int) (x3 : List Int) :
    ∀ (d k i : Nat) (out : List Int), i + d = r → d < k → out = (List.range i).map (fun r => ((bitsum (fun j => !mk ms r j) c : Nat) : Int)) →
    spec_OppositeTable.l0 k (ms.map (fun (x : Nat) => (x : Int))) (r : Int) (i : Int) x1 (c : Int) x3 (r : Int) (c : Int) out = some ((r : Int), (c : Int), relList r c (fun r c => !mk ms r c), true) := by
  intro d
  induction d with
  | zero =>
    intro k i out hi hk ho
    obtain ⟨k, rfl⟩ : ∃ m, k = m + 1 := ⟨k - 1, by omega⟩
    simp only [spec_OppositeTable.l0]
    have e : i = r := by omega
    subst e
    rw [if_neg (by omega), ho]
    rfl
  | succ d ih =>
    intro k i out hi hk ho
    obtain ⟨k, rfl⟩ : ∃ m, k = m + 1 := ⟨k - 1, by omega⟩
    simp only [spec_OppositeTable.l0]
    have e1 : ((i : Int) + 1) = ((i + 1 : Nat) : Int) := by omega
    have ol : out.length = i := by rw [ho]; simp
    have e2 := opp_row (ms.getD i 0) c (getD_lt (Nat.two_pow_pos _) hb i) hc
    rw [if_pos (by omega), if_pos (by omega), if_pos (by simp; omega), if_pos (by omega), if_pos (by omega), rd_map, wrap_ok (by omega) (by omega), e1, e2]
    refine ih k (i + 1) _ (by omega) (by omega) ?_
    rw [ho, List.range_succ, List.map_append]
    rfl

theorem vMarked_k (R : Int) (C : Nat) (ns : List Nat) (x : Nat) (hC0 : 1 ≤ C) (hC : C ≤ 6) (hx : x / C < ns.length) (hx2 : x < 1000) : laws_vMarked.f R (C : Int) (ns.map (fun (x : Nat) => (x : Int))) (x : Int) = some (mk ns (x / C) (x % C)) := by
  have t1 : Int.tmod ((x : Nat) : Int) (C : Int) = ((x % C : Nat) : Int) := rfl
  have t2 : Int.tdiv ((x : Nat) : Int) (C : Int) = ((x / C : Nat) : Int) := rfl
  have hd : x / C ≤ x := Nat.div_le_self _ _
  have hm : x % C < C := Nat.mod_lt _ (by omega)
  have lm : ((ns.map (fun (x : Nat) => (x : Int))).length : Int) = (ns.length : Int) := by simp
  unfold laws_vMarked.f
  rw [t1, t2, wrap_small _ (by omega), if_neg (by omega), if_pos (Int.natCast_nonneg (x / C)), if_pos (show ((x / C : Nat) : Int) < ((ns.map (fun (x : Nat) => (x : Int))).length : Int) by omega), if_pos (Int.natCast_nonneg (x % C)), rd_map, shr_nat _ _ (by omega), tmod_nat]
  have e2 : mk ns (x / C) (x % C) = decide ((ns.getD (x / C) 0) / 2 ^ (x % C) % 2 = 1) := Nat.testBit_eq_decide_div_mod_eq
  rw [e2]
  congr 1
  by_cases h : (ns.getD (x / C) 0) / 2 ^ (x % C) % 2 = 1
  · rw [h]; rfl
  · have h0 : (ns.getD (x / C) 0) / 2 ^ (x % C) % 2 = 0 := by omega
    rw [h0]; rfl

theorem byte_wfT (s : List Int) (h : ∀ x ∈ s, (Lit.int .u8 x).wf = true) : ∀ x ∈ s, 0 ≤ x ∧ x < 256 := by
  intro x hx
  have e : IntKind.u8.min ≤ x ∧ x ≤ IntKind.u8.max := by simpa [Lit.wf] using h x hx
  have e1 : IntKind.u8.min = 0 := rfl
  have e2 : IntKind.u8.max = 255 := rfl
  omega
theorem vSame_k (l : List Int) (hl : l.length ≤ 1048576) (k : Nat) (hk : l.length < k) : laws_vSame.f k l l = some true := by
  unfold laws_vSame.f
  rw [if_pos rfl]
  have main : ∀ (d k i : Nat), i + d = l.length → d < k → laws_vSame.l0 k l l (l.length : Int) (i : Int) = some true := by
    intro d
    induction d with
    | zero =>
      intro k i hi hk
      obtain ⟨k, rfl⟩ : ∃ m, k = m + 1 := ⟨k - 1, by omega⟩
      rw [laws_vSame.l0, if_neg (by omega)]
    | succ d ih =>
      intro k i hi hk
      obtain ⟨k, rfl⟩ : ∃ m, k = m + 1 := ⟨k - 1, by omega⟩
      rw [laws_vSame.l0, if_pos (by omega), if_pos (by omega), if_pos (by omega), if_pos (by omega), if_pos rfl, wrap_ok (by omega) (by omega), show ((i : Int) + 1) = ((i + 1 : Nat) : Int) by omega]
      exact ih k (i + 1) (by omega) (by omega)
  exact main l.length k 0 (by omega) hk
theorem vTable_k (R C : Int) (M : List Int) (hM : M.length ≤ 1048576) (k : Nat) (hk : M.length < k) : laws_vTable.f k R C M R C M = some true := by
  unfold laws_vTable.f
  rw [if_pos rfl, if_pos rfl, vSame_k M hM k hk]
  rfl
/-- Drawn tables. -/
theorem drawMeet_ok (s : List Int) (hs : s.length ≤ 1048576) (hb : ∀ x ∈ s, 0 ≤ x ∧ x < 256) (k : Nat) (hk : 500 < k) : ∃ R C M R' C' M', M.length ≤ 6 ∧ M'.length ≤ 6 ∧ spec_DrawMeetTables.f k s = some (R, C, M, R', C', M') := by
  unfold spec_DrawMeetTables.f
  obtain ⟨R, C, M, p, h, e, e1, e2, e3⟩ := table_okB 300 (by omega) s hs hb k (by omega) 0 0 (by omega) (by omega)
  rw [e]
  simp only [Option.bind_some]
  rw [feGood_k R C M (by omega) k (by omega)]
  simp only [Option.bind_some]
  have other : ∀ (p h : Int) (k : Nat), 400 < k → 0 ≤ p → p ≤ 302 → ∃ R1 C1 M1 R' C' M', M1.length ≤ 6 ∧ M'.length ≤ 6 ∧ spec_DrawMeetTables.j0 k true s p h R C M = some (R1, C1, M1, R', C', M') := by
    intro p h k hk h0 h1
    obtain ⟨k, rfl⟩ : ∃ m, k = m + 1 := ⟨k - 1, by omega⟩
    obtain ⟨R', C', M', p', h', z, z1, z2, z3⟩ := table_okB 700 (by omega) s hs hb k (by omega) p h h0 (by omega)
    rw [spec_DrawMeetTables.j0, if_pos rfl, z]
    exact ⟨_, _, _, _, _, _, e1, z1, rfl⟩
  cases hT : isTab R C M
  · simp only [Bool.false_eq_true, if_false]
    exact other p h k (by omega) e2 (by omega)
  · simp only [if_true]
    obtain ⟨b, p1, g1, o, o1, o2⟩ := one_ok s hs hb p h 6 e2 (by omega)
    rw [o]
    simp only [Option.bind_some]
    cases b
    · obtain ⟨r, c, ms, rfl, rfl, rfl, h1, h2, h3, h4, h5, h6⟩ := (isTab_iff R C M).1 hT
      obtain ⟨k, rfl⟩ : ∃ m, k = m + 1 := ⟨k - 1, by omega⟩
      rw [spec_DrawMeetTables.j0, if_neg (by simp)]
      have lm : (ms.map (fun (x : Nat) => (x : Int))).length = r := by simp [h5]
      rw [lm]
      have main : ∀ (d k i : Nat) (N : List Int) (p h : Int), N.length = i → i + d = r → d < k → 0 ≤ p → p + 2 * d ≤ 1000 → ∃ R1 C1 M1 R' C' M', M1.length ≤ 6 ∧ M'.length ≤ 6 ∧ spec_DrawMeetTables.l0 k (r : Int) (i : Int) s p h (r : Int) (c : Int) (ms.map (fun (x : Nat) => (x : Int))) (r : Int) (c : Int) N = some (R1, C1, M1, R', C', M') := by
        intro d
        induction d with
        | zero =>
          intro k i N p h hN hi hk h0 h1
          obtain ⟨k, rfl⟩ : ∃ m, k = m + 1 := ⟨k - 1, by omega⟩
          rw [spec_DrawMeetTables.l0, if_neg (by omega)]
          exact ⟨_, _, _, _, _, _, e1, by omega, rfl⟩
        | succ d ih =>
          intro k i N p h hN hi hk h0 h1
          obtain ⟨k, rfl⟩ : ∃ m, k = m + 1 := ⟨k - 1, by omega⟩
          obtain ⟨v, p', h', z, _, _, _, z1, z2⟩ := pick_ok s hs hb p h (shl .i64 1 (c : Int)) h0 (by omega)
          rw [spec_DrawMeetTables.l0, if_pos (by omega), if_pos (by omega), z]
          simp only [Option.bind_some]
          rw [if_pos (by omega), wrap_ok (by omega) (by omega), show ((i : Int) + 1) = ((i + 1 : Nat) : Int) by omega]
          exact ih k (i + 1) _ p' h' (by simp; omega) (by omega) (by omega) (by omega) (by omega)
      exact main r k 0 [] p1 g1 rfl (by omega) (by omega) (by omega) (by omega)
    · exact other p1 g1 k (by omega) (by omega) (by omega)
theorem ba_sizes (a b : ByteArray) : (a ++ b).size = a.size + b.size := ByteArray.size_append
theorem ex_size (a : ByteArray) (i j : Nat) : (a.extract i j).size ≤ a.size := by rw [ByteArray.size_extract]; omega
theorem str_one (x : Int) : (strOfNums [x]).size = 1 := rfl
theorem spoilt_l0 (s : List Int) (hs : s.length ≤ 1048576) (hb : ∀ x ∈ s, 0 ≤ x ∧ x < 256) (w : ByteArray) (hw : 1 < w.size) (hw2 : w.size ≤ 100) : ∀ (n k : Nat) (t : ByteArray) (p h : Int), t.size + n ≤ 300 → 2 * n + 2 < k → 0 ≤ p → p + 6 * n ≤ 5000 → ∃ t' p' h', t'.size ≤ 300 ∧ spec_l1Cur_spoilt.l0 k t w (n : Int) s p h = some (t', p', h') := by
  intro n
  induction n with
  | zero =>
    intro k t p h ht hk h0 h1
    obtain ⟨k, rfl⟩ : ∃ m, k = m + 2 := ⟨k - 2, by omega⟩
    rw [spec_l1Cur_spoilt.l0, if_neg (by omega), spec_l1Cur_spoilt.j1, if_neg (by simp)]
    exact ⟨_, _, _, by omega, rfl⟩
  | succ n ih =>
    intro k t p h ht hk h0 h1
    obtain ⟨k, rfl⟩ : ∃ m, k = m + 2 := ⟨k - 2, by omega⟩
    rw [spec_l1Cur_spoilt.l0, if_pos (by omega)]
    by_cases ht0 : ((t.size : Nat) : Int) > 0
    · obtain ⟨i, p1, g1, a1, a2, a3, a4, a5, a6⟩ := pick_ok s hs hb p h (t.size : Int) h0 (by omega)
      obtain ⟨j, p2, g2, b1, b2, b3, b4, b5, b6⟩ := pick_ok s hs hb p1 g1 (w.size : Int) (by omega) (by omega)
      obtain ⟨q, p3, g3, c1, c2, c3, c4, c5, c6⟩ := pick_ok s hs hb p2 g2 3 (by omega) (by omega)
      have b7 := b3 (by omega)
      have a7 : i < (t.size : Int) := by
        by_cases h1 : (1 : Int) < (t.size : Int)
        · exact a3 h1
        · have := a4 (by omega); omega
      have w1 : wrap64 (i + 1) = i + 1 := wrap_ok (by omega) (by omega)
      have w2 : wrap64 (((n + 1 : Nat) : Int) - 1) = (n : Int) := by rw [wrap_ok (by omega) (by omega)]; omega
      rw [decide_eq_true ht0, spec_l1Cur_spoilt.j1, if_pos rfl, a1]
      simp only [Option.bind_some]
      rw [b1]
      simp only [Option.bind_some]
      rw [if_pos b2, if_pos b7]
      rw [c1]
      simp only [Option.bind_some]
      have s1 : (t.extract 0 i.toNat).size = i.toNat := by rw [ByteArray.size_extract]; omega
      have s2 : (t.extract i.toNat t.size).size = t.size - i.toNat := by rw [ByteArray.size_extract]; omega
      have s3 : (t.extract (i + 1).toNat t.size).size = t.size - (i + 1).toNat := by rw [ByteArray.size_extract]; omega
      by_cases q0 : q = 0
      · rw [if_pos q0, if_pos a2, if_pos (by omega), if_pos (by rw [s1, str_one]; omega), if_pos (by rw [ba_sizes, s1, s2, str_one]; omega), w2]
        exact ih k _ p3 g3 (by rw [ba_sizes, ba_sizes, s1, s2, str_one]; omega) (by omega) (by omega) (by omega)
      · rw [if_neg q0]
        by_cases q1 : q = 1
        · rw [if_pos q1, if_pos a2, if_pos (by omega), if_pos (by rw [s1, str_one]; omega), w1, if_pos (by omega), if_pos (by omega), if_pos (by rw [ba_sizes, s1, s3, str_one]; omega), w2]
          exact ih k _ p3 g3 (by rw [ba_sizes, ba_sizes, s1, s3, str_one]; omega) (by omega) (by omega) (by omega)
        · rw [if_neg q1, if_pos a2, if_pos (by omega), w1, if_pos (by omega), if_pos (by omega), if_pos (by rw [s1, s3]; omega), w2]
          exact ih k _ p3 g3 (by rw [ba_sizes, s1, s3]; omega) (by omega) (by omega) (by omega)
    · rw [decide_eq_false ht0, spec_l1Cur_spoilt.j1, if_neg (by simp)]
      exact ⟨_, _, _, by omega, rfl⟩
/-- Drawn texts. -/
theorem drawParse_ok (s : List Int) (hs : s.length ≤ 1048576) (hb : ∀ x ∈ s, 0 ≤ x ∧ x < 256) (k : Nat) (hk : 500 < k) : ∃ t : ByteArray, t.size ≤ 300 ∧ spec_DrawParseTable.f k s = some t := by
  unfold spec_DrawParseTable.f
  obtain ⟨R, C, M, p, h, e, e1, e2, e3⟩ := table_okB 300 (by omega) s hs hb k (by omega) 0 0 (by omega) (by omega)
  rw [e]
  simp only [Option.bind_some]
  rw [feGood_k R C M (by omega) k (by omega)]
  simp only [Option.bind_some]
  have j : ∀ (t : ByteArray), t.size ≤ 100 → ∃ t' : ByteArray, t'.size ≤ 300 ∧ spec_DrawParseTable.j0 k t s p h = some t' := by
    intro t ht
    obtain ⟨k, rfl⟩ : ∃ m, k = m + 1 := ⟨k - 1, by omega⟩
    obtain ⟨b, p1, g1, o, o1, o2⟩ := one_ok s hs hb p h 3 e2 (by omega)
    rw [spec_DrawParseTable.j0, o]
    simp only [Option.bind_some]
    cases b
    · exact ⟨t, by omega, rfl⟩
    · rw [if_pos rfl]
      unfold spec_l1Cur_spoilt.f
      obtain ⟨q, p2, g2, c1, c2, c3, c4, c5, c6⟩ := pick_ok s hs hb p1 g1 2 (by omega) (by omega)
      have := c3 (by omega)
      rw [c1]
      simp only [Option.bind_some]
      obtain ⟨n, rfl⟩ := Int.eq_ofNat_of_zero_le c2
      rw [wrap_ok (by omega) (by omega), show (1 : Int) + ((n : Nat) : Int) = ((n + 1 : Nat) : Int) by omega]
      obtain ⟨t', p', h', z1, z2⟩ := spoilt_l0 s hs hb (⟨#[48, 49, 47, 50, 32]⟩ : ByteArray) (by decide) (by decide) (n + 1) k t p2 g2 (by omega) (by omega) (by omega) (by omega)
      rw [z2]
      exact ⟨t', z1, rfl⟩
  cases hT : isTab R C M
  · simp only [Bool.false_eq_true, if_false]
    exact j _ (by decide)
  · obtain ⟨r, c, ms, rfl, rfl, rfl, h1, h2, h3, h4, h5, h6⟩ := (isTab_iff R C M).1 hT
    have h64 : ∀ x ∈ ms, x < 64 := fun x hx => Nat.lt_of_lt_of_le (h6 x hx) (Nat.pow_le_pow_right (n := 2) (by omega) h4)
    simp only [if_true]
    rw [feText_k r c ms h5 h2 h4 h64 k (by omega)]
    simp only [Option.bind_some]
    have hlen := txt_length c ms r
    have hm : r * (c + 1) ≤ 6 * 7 := Nat.mul_le_mul h2 (by omega)
    exact j _ (by rw [ba_size]; omega)
/-- The marks that are told, in numbers. -/
def natList (R C : Nat) (p : Nat → Nat → Bool) : List Nat := (List.range R).map fun i => bitsum (p i) C
theorem relList_nat (R C : Nat) (p : Nat → Nat → Bool) : relList R C p = (natList R C p).map (fun (x : Nat) => (x : Int)) := by
  unfold relList natList
  rw [List.map_map]
  rfl
theorem natList_tb {R C : Nat} (h1 : 1 ≤ R) (h2 : R ≤ 6) (h3 : 1 ≤ C) (h4 : C ≤ 6) (p : Nat → Nat → Bool) : Tb R C (natList R C p) := by
  refine ⟨h1, h2, h3, h4, by simp [natList], fun x hx => ?_⟩
  obtain ⟨i, _, rfl⟩ := List.mem_map.1 hx
  exact bitsum_lt _ _
theorem natList_mk {R C : Nat} (p : Nat → Nat → Bool) (i j : Nat) (hi : i < R) (hj : j < C) : mk (natList R C p) i j = p i j := by
  unfold mk natList
  rw [List.getD_eq_getElem?_getD, List.getElem?_map, List.getElem?_range hi]
  show (bitsum (p i) C).testBit j = p i j
  rw [bitsum_bit]
  simp [hj]
theorem mirror_yes {r c : Nat} {ms : List Nat} (hT : Tb r c ms) (k : Nat) (hk : 400 < k) : impl_MirrorTable.f k (r : Int) (c : Int) (ms.map (fun (x : Nat) => (x : Int))) = some ((c : Int), (r : Int), relList c r (fun j i => mk ms i j), true) ∧ spec_MirrorTable.f k (r : Int) (c : Int) (ms.map (fun (x : Nat) => (x : Int))) = some ((c : Int), (r : Int), relList c r (fun j i => mk ms i j), true) := by
  have h64 := hT.lt64
  have htab := hT.tab
  obtain ⟨h1, h2, h3, h4, h5, h6⟩ := hT
  have hrc : c * (r + 3) ≤ 6 * 9 := Nat.mul_le_mul h4 (by omega)
  constructor
  · unfold impl_MirrorTable.f
    rw [IsTable_k _ _ _ (by simp; omega) k (by simp; omega), htab]
    simp only [Option.bind_some, if_true]
    rw [table_k c r (by omega) (by omega) _ (fun c r => mk ms r c) (fun i j hi hj => mirror_1 _ _ ms i j h64 (by omega) (by omega)) k (by omega)]
    rfl
  · unfold spec_MirrorTable.f
    rw [feGood_k _ _ _ (by simp; omega) k (by simp; omega), htab]
    simp only [Option.bind_some, if_true]
    rw [feMirror_k r c ms h5 h2 h4 h64 k (by omega)]
    rfl
theorem opp_yes {r c : Nat} {ms : List Nat} (hT : Tb r c ms) (k : Nat) (hk : 400 < k) : impl_OppositeTable.f k (r : Int) (c : Int) (ms.map (fun (x : Nat) => (x : Int))) = some ((r : Int), (c : Int), relList r c (fun i j => !mk ms i j), true) ∧ spec_OppositeTable.f k (r : Int) (c : Int) (ms.map (fun (x : Nat) => (x : Int))) = some ((r : Int), (c : Int), relList r c (fun i j => !mk ms i j), true) := by
  have h64 := hT.lt64
  have htab := hT.tab
  obtain ⟨h1, h2, h3, h4, h5, h6⟩ := hT
  have hrc : r * (c + 3) ≤ 6 * 9 := Nat.mul_le_mul h2 (by omega)
  constructor
  · unfold impl_OppositeTable.f
    rw [IsTable_k _ _ _ (by simp; omega) k (by simp; omega), htab]
    simp only [Option.bind_some, if_true]
    rw [table_k r c (by omega) (by omega) _ (fun r c => !mk ms r c) (fun i j hi hj => opp_1 _ _ ms i j h64 (by omega) (by omega)) k (by omega)]
    rfl
  · unfold spec_OppositeTable.f
    rw [feGood_k _ _ _ (by simp; omega) k (by simp; omega), htab]
    simp only [Option.bind_some, if_true]
    have := opp_l0 r c ms h5 h2 h4 h6 (r : Int) 0 (ms.map (fun (x : Nat) => (x : Int))) r k 0 [] (by omega) (by omega) (by simp)
    simpa [h5] using this
theorem turn_no (R C : Int) (M : List Int) (hM : M.length ≤ 6) (h : isTab R C M = false) (k : Nat) (hk : 400 < k) : impl_MirrorTable.f k R C M = some (0, 0, [], false) ∧ spec_MirrorTable.f k R C M = some (0, 0, [], false) ∧ impl_OppositeTable.f k R C M = some (0, 0, [], false) ∧ spec_OppositeTable.f k R C M = some (0, 0, [], false) := by
  refine ⟨?_, ?_, ?_, ?_⟩
  · unfold impl_MirrorTable.f; rw [IsTable_k R C M (by omega) k (by omega), h]; rfl
  · unfold spec_MirrorTable.f; rw [feGood_k R C M (by omega) k (by omega), h]; rfl
  · unfold impl_OppositeTable.f; rw [IsTable_k R C M (by omega) k (by omega), h]; rfl
  · unfold spec_OppositeTable.f; rw [feGood_k R C M (by omega) k (by omega), h]; rfl
theorem meet_yes {r c : Nat} {ms ns : List Nat} (hT : Tb r c ms) (hT' : Tb r c ns) (k : Nat) (hk : 400 < k) : impl_MeetTables.f k (r : Int) (c : Int) (ms.map (fun (x : Nat) => (x : Int))) (r : Int) (c : Int) (ns.map (fun (x : Nat) => (x : Int))) = some ((r : Int), (c : Int), relList r c (fun i j => mk ms i j && mk ns i j), true) ∧ spec_MeetTables.f k (r : Int) (c : Int) (ms.map (fun (x : Nat) => (x : Int))) (r : Int) (c : Int) (ns.map (fun (x : Nat) => (x : Int))) = some ((r : Int), (c : Int), relList r c (fun i j => mk ms i j && mk ns i j), true) := by
  have h64 := hT.lt64
  have g64 := hT'.lt64
  have htab := hT.tab
  have gtab := hT'.tab
  obtain ⟨h1, h2, h3, h4, h5, h6⟩ := hT
  obtain ⟨_, _, _, _, q5, q6⟩ := hT'
  have hrc : r * (c + 3) ≤ 6 * 9 := Nat.mul_le_mul h2 (by omega)
  constructor
  · unfold impl_MeetTables.f
    rw [IsTable_k _ _ _ (by simp; omega) k (by simp; omega), htab]
    simp only [Option.bind_some, if_true]
    rw [IsTable_k _ _ _ (by simp; omega) k (by simp; omega), gtab]
    simp only [Option.bind_some, if_true]
    rw [table_k r c (by omega) (by omega) _ (fun r c => mk ms r c && mk ns r c) (fun i j hi hj => meet_1 _ _ _ _ ms ns i j h64 g64 (by omega) (by omega) (by omega)) k (by omega)]
    rfl
  · unfold spec_MeetTables.f
    rw [feGood_k _ _ _ (by simp; omega) k (by simp; omega), htab]
    simp only [Option.bind_some, if_true]
    rw [feGood_k _ _ _ (by simp; omega) k (by simp; omega), gtab]
    simp only [Option.bind_some, if_true]
    have hl : ((ms.map (fun (x : Nat) => (x : Int))).length : Int) = (r : Int) := by simp; omega
    unfold spec_feMeet.f
    rw [hl]
    have := feMeet_l0 r c ms ns h5 q5 h2 h4 h6 q6 (r : Int) (c : Int) (r : Int) (c : Int) r k 0 [] (by omega) (by omega) (by simp)
    rw [show ((0 : Nat) : Int) = 0 from rfl] at this
    rw [this]
    rfl
theorem meet_no (R C : Int) (M : List Int) (R' C' : Int) (N : List Int) (hM : M.length ≤ 6) (hN : N.length ≤ 6) (h : ¬ (isTab R C M = true ∧ isTab R' C' N = true ∧ R = R' ∧ C = C')) (k : Nat) (hk : 400 < k) : impl_MeetTables.f k R C M R' C' N = some (0, 0, [], false) ∧ spec_MeetTables.f k R C M R' C' N = some (0, 0, [], false) := by
  constructor
  · unfold impl_MeetTables.f
    rw [IsTable_k R C M (by omega) k (by omega)]
    simp only [Option.bind_some]
    split
    · rw [IsTable_k R' C' N (by omega) k (by omega)]
      simp only [Option.bind_some]
      split
      · split
        · split
          · exact absurd ⟨by assumption, by assumption, by assumption, by assumption⟩ h
          · rfl
        · rfl
      · rfl
    · rfl
  · unfold spec_MeetTables.f
    rw [feGood_k R C M (by omega) k (by omega)]
    simp only [Option.bind_some]
    split
    · rw [feGood_k R' C' N (by omega) k (by omega)]
      simp only [Option.bind_some]
      split
      · split
        · split
          · exact absurd ⟨by assumption, by assumption, by assumption, by assumption⟩ h
          · rfl
        · rfl
      · rfl
    · rfl
theorem text_yes {r c : Nat} {ms : List Nat} (hT : Tb r c ms) (k : Nat) (hk : 400 < k) : impl_TableText.f k (r : Int) (c : Int) (ms.map (fun (x : Nat) => (x : Int))) = some (toBA (txt c ms r), true) := by
  have h64 := hT.lt64
  have htab := hT.tab
  obtain ⟨h1, h2, h3, h4, h5, h6⟩ := hT
  unfold impl_TableText.f
  rw [IsTable_k _ _ _ (by simp; omega) k (by simp; omega), htab]
  simp only [Option.bind_some, if_true]
  rw [tableText_k r c ms h5 h2 h4 h64 k (by omega)]
  rfl
theorem empty_yes {r c : Nat} {ms : List Nat} (hT : Tb r c ms) (k : Nat) (hk : 400 < k) : impl_EmptyCells.f k (r : Int) (c : Int) (ms.map (fun (x : Nat) => (x : Int))) = some (emptyTo c ms r, true) := by
  have h64 := hT.lt64
  have htab := hT.tab
  obtain ⟨h1, h2, h3, h4, h5, h6⟩ := hT
  unfold impl_EmptyCells.f
  rw [IsTable_k _ _ _ (by simp; omega) k (by simp; omega), htab]
  simp only [Option.bind_some, if_true]
  rw [emptyCells_k r c ms h5 h2 h4 h64 k (by omega)]
  rfl
theorem emptyRow_sum (C : Nat) (ms ns : List Nat) (i : Nat) : ∀ j, (∀ q, q < j → mk ns i q = !mk ms i q) → (emptyRow C ms i j).length + (emptyRow C ns i j).length = j := by
  intro j
  induction j with
  | zero => intro _; simp [emptyRow]
  | succ j ih =>
    intro h
    have := ih (fun q hq => h q (by omega))
    rw [emptyRow_succ, emptyRow_succ, h j (by omega)]
    cases mk ms i j <;> simp <;> omega
theorem emptyTo_sum (C : Nat) (ms ns : List Nat) : ∀ i, (∀ p q, p < i → q < C → mk ns p q = !mk ms p q) → (emptyTo C ms i).length + (emptyTo C ns i).length = i * C := by
  intro i
  induction i with
  | zero => intro _; simp [emptyTo]
  | succ i ih =>
    intro h
    have h1 := ih (fun p q hp hq => h p q (by omega) hq)
    have h2 := emptyRow_sum C ms ns i C (fun q hq => h i q (by omega) hq)
    rw [emptyTo_succ, emptyTo_succ, List.length_append, List.length_append, Nat.succ_mul]
    omega
theorem mem_emptyTo {C : Nat} {ms : List Nat} {R : Nat} {v : Int} : v ∈ emptyTo C ms R ↔ ∃ i j : Nat, i < R ∧ j < C ∧ mk ms i j = false ∧ v = ((i * C + j : Nat) : Int) := by
  unfold emptyTo emptyRow
  simp only [List.mem_flatMap, List.mem_range, List.mem_map, List.mem_filter, Bool.not_eq_true']
  constructor
  · rintro ⟨i, hi, j, ⟨hj, hm⟩, rfl⟩; exact ⟨i, j, hi, hj, hm, rfl⟩
  · rintro ⟨i, j, hi, hj, hm, rfl⟩; exact ⟨i, hi, j, ⟨hj, hm⟩, rfl⟩
theorem cell_parts (i j C : Nat) (hj : j < C) : (i * C + j) / C = i ∧ (i * C + j) % C = j := by
  have hC : 0 < C := by omega
  constructor
  · rw [Nat.mul_comm, Nat.mul_add_div hC, Nat.div_eq_of_lt hj, Nat.add_zero]
  · rw [Nat.mul_comm, Nat.mul_add_mod, Nat.mod_eq_of_lt hj]
theorem vHas_no (l : List Int) (x : Int) (hl : l.length ≤ 1000) (h : x ∉ l) (k : Nat) (hk : l.length < k) : laws_vHas.f k l x = some false := by
  unfold laws_vHas.f
  have main : ∀ (d k i : Nat), i + d = l.length → d < k → laws_vHas.l0 k x l (l.length : Int) (i : Int) = some false := by
    intro d
    induction d with
    | zero =>
      intro k i hi hk
      obtain ⟨k, rfl⟩ : ∃ m, k = m + 1 := ⟨k - 1, by omega⟩
      rw [laws_vHas.l0, if_neg (by omega)]
    | succ d ih =>
      intro k i hi hk
      obtain ⟨k, rfl⟩ : ∃ m, k = m + 1 := ⟨k - 1, by omega⟩
      have hm : rd l (i : Int) ≠ x := by
        rw [rd_nat, List.getD_eq_getElem?_getD, List.getElem?_eq_getElem (by omega)]
        intro e
        exact h (e ▸ List.getElem_mem _)
      rw [laws_vHas.l0, if_pos (by omega), if_pos (by omega), if_pos (by omega), if_neg hm, wrap_ok (by omega) (by omega), show ((i : Int) + 1) = ((i + 1 : Nat) : Int) by omega]
      exact ih k (i + 1) (by omega) (by omega)
  exact main l.length k 0 (by omega) hk
theorem vMarked_t {r c : Nat} {ms : List Nat} (hT : Tb r c ms) (x : Nat) (hx : x < r * c) : laws_vMarked.f (r : Int) (c : Int) (ms.map (fun (x : Nat) => (x : Int))) (x : Int) = some (mk ms (x / c) (x % c)) := by
  obtain ⟨h1, h2, h3, h4, h5, h6⟩ := hT
  have lr : r * c ≤ 6 * 6 := Nat.mul_le_mul h2 h4
  exact vMarked_k _ c ms x h3 h4 (by rw [h5]; exact Nat.div_lt_of_lt_mul (by rw [Nat.mul_comm]; exact hx)) (by omega)
/-- The last part: a text that is drawn. -/
theorem turned_j6 (l1 : List Int) (hl : l1.length ≤ 1048576) (hb : ∀ x ∈ l1, 0 ≤ x ∧ x < 256) (k : Nat) (hk : 1250000 < k) : laws_FnTablesTurned.j6 k l1 = some true := by
  obtain ⟨k, rfl⟩ : ∃ m, k = m + 2 := ⟨k - 2, by omega⟩
  obtain ⟨t, ht, hD⟩ := drawParse_ok l1 hl hb (k + 1) (by omega)
  rw [laws_FnTablesTurned.j6, hD]
  simp only [Option.bind_some]
  have hS := sparse_k t (by omega) (k + 1) (by omega)
  by_cases hP : ∃ r c ms, IsTxt t r c ms
  · obtain ⟨r, c, ms, h⟩ := hP
    have hT := h.1
    have lm : (ms.map (fun (x : Nat) => (x : Int))).length = r := by simp [hT.2.2.2.2.1]
    have r6 := hT.2.1
    rw [parse_yes t r c ms h (k + 1) (by omega)]
    simp only [Option.bind_some]
    rw [hS.1 r c ms h]
    simp only [Option.bind_some, bne_self_eq_false, Bool.false_eq_true, if_false]
    rw [vTable_k _ _ _ (by omega) _ (by omega)]
    simp only [Option.bind_some, Bool.not_true]
    rw [laws_FnTablesTurned.j7]
    simp only [Bool.false_eq_true, if_false, if_true]
    rw [text_yes hT k (by omega)]
    simp only [Option.bind_some, if_true]
    rw [h.2]
    simp
  · have hP2 : ∀ r c ms, ¬ IsTxt t r c ms := fun r c ms h => hP ⟨r, c, ms, h⟩
    rw [parse_no t (by omega) hP2 (k + 1) (by omega)]
    simp only [Option.bind_some]
    rw [hS.2 hP2]
    simp only [Option.bind_some, bne_self_eq_false, Bool.false_eq_true, if_false]
    rw [vTable_k 0 0 [] (by simp) _ (by simp)]
    simp only [Option.bind_some, Bool.not_true]
    rw [laws_FnTablesTurned.j7]
    simp
theorem turned_j4_no (l1 : List Int) (hl : l1.length ≤ 1048576) (hb : ∀ x ∈ l1, 0 ≤ x ∧ x < 256) (a b d e g h : Int) (A B D : List Int) (k : Nat) (hk : 1250001 < k) : laws_FnTablesTurned.j4 k l1 false a b A d e B g h D = some true := by
  obtain ⟨k, rfl⟩ : ∃ m, k = m + 1 := ⟨k - 1, by omega⟩
  rw [laws_FnTablesTurned.j4, if_neg (by simp)]
  exact turned_j6 l1 hl hb k (by omega)
theorem turned_j4_yes (l1 : List Int) (hl : l1.length ≤ 1048576) (hb : ∀ x ∈ l1, 0 ≤ x ∧ x < 256) {r c : Nat} {ms ns : List Nat} (hT : Tb r c ms) (hT' : Tb r c ns) (k : Nat) (hk : 1250100 < k) :
    laws_FnTablesTurned.j4 k l1 true (r : Int) (c : Int) (ms.map (fun (x : Nat) => (x : Int))) (r : Int) (c : Int) (ns.map (fun (x : Nat) => (x : Int))) (r : Int) (c : Int) (relList r c (fun i j => mk ms i j && mk ns i j)) = some true := by
  obtain ⟨k, rfl⟩ : ∃ m, k = m + 1 := ⟨k - 1, by omega⟩
  rw [laws_FnTablesTurned.j4, if_pos rfl]
  have h2 := hT.2.1
  have h3 := hT.2.2.1
  have h4 := hT.2.2.2.1
  have lr : r * c ≤ 6 * 6 := Nat.mul_le_mul h2 h4
  have hN := natList_tb hT.1 h2 h3 h4 (fun i j => mk ms i j && mk ns i j)
  have em : wrap64 ((r : Int) * (c : Int)) = ((r * c : Nat) : Int) := by rw [show (r : Int) * (c : Int) = ((r * c : Nat) : Int) by simp, wrap_ok (by omega) (by omega)]
  rw [relList_nat]
  have main : ∀ (d k i : Nat), i + d = r * c → 1250000 + d + 1 < k → laws_FnTablesTurned.l1 k l1 (i : Int) (r : Int) (c : Int) (ms.map (fun (x : Nat) => (x : Int))) (r : Int) (c : Int) (ns.map (fun (x : Nat) => (x : Int))) (r : Int) (c : Int) ((natList r c (fun i j => mk ms i j && mk ns i j)).map (fun (x : Nat) => (x : Int))) = some true := by
    intro d
    induction d with
    | zero =>
      intro k i hi hk
      obtain ⟨k, rfl⟩ : ∃ m, k = m + 1 := ⟨k - 1, by omega⟩
      rw [laws_FnTablesTurned.l1, em, if_neg (by omega)]
      exact turned_j6 l1 hl hb k (by omega)
    | succ d ih =>
      intro k i hi hk
      obtain ⟨k, rfl⟩ : ∃ m, k = m + 1 := ⟨k - 1, by omega⟩
      have hir : i / c < r := Nat.div_lt_of_lt_mul (by rw [Nat.mul_comm]; omega)
      have hic : i % c < c := Nat.mod_lt _ (by omega)
      rw [laws_FnTablesTurned.l1, em, if_pos (by omega), vMarked_t hN i (by omega), natList_mk _ _ _ hir hic]
      simp only [Option.bind_some]
      rw [vMarked_t hT i (by omega)]
      simp only [Option.bind_some]
      have next := ih k (i + 1) (by omega) (by omega)
      rw [wrap_ok (by omega) (by omega), show ((i : Int) + 1) = ((i + 1 : Nat) : Int) by omega]
      cases hm : mk ms (i / c) (i % c)
      · simp only [Bool.false_and, Bool.false_eq_true, if_false, bne_self_eq_false]
        exact next
      · simp only [if_true, Bool.true_and]
        rw [vMarked_t hT' i (by omega)]
        simp only [Option.bind_some, bne_self_eq_false, Bool.false_eq_true, if_false]
        exact next
  exact main (r * c) k 0 (by omega) (by omega)
theorem turned_loop (l1 : List Int) (z : Bool) (g h : Int) (D : List Int) (R' C' : Int) (M' : List Int) {r c : Nat} {ms : List Nat} (hT2 : Tb r c ms) (hj4 : ∀ k, 1250200 < k → laws_FnTablesTurned.j4 k l1 z (r : Int) (c : Int) (ms.map (fun (x : Nat) => (x : Int))) R' C' M' g h D = some true) (k : Nat) (hk : 1250300 + (emptyTo c ms r).length < k) :
    laws_FnTablesTurned.l0 k l1 z (emptyTo c (natList r c (fun i j => !mk ms i j)) r) (emptyTo c ms r) ((emptyTo c ms r).length : Int) 0 (r : Int) (c : Int) (ms.map (fun (x : Nat) => (x : Int))) R' C' M' g h D = some true := by
  obtain ⟨h1, h2, h3, h4, h5, h6⟩ := id hT2
  have lr : r * c ≤ 6 * 6 := Nat.mul_le_mul h2 h4
  have hsum := emptyTo_sum c ms (natList r c (fun i j => !mk ms i j)) r (fun p q hp hq => natList_mk _ p q hp hq)
  have main : ∀ (d k i : Nat), i + d = (emptyTo c ms r).length → 1250300 + d < k → laws_FnTablesTurned.l0 k l1 z (emptyTo c (natList r c (fun i j => !mk ms i j)) r) (emptyTo c ms r) ((emptyTo c ms r).length : Int) (i : Int) (r : Int) (c : Int) (ms.map (fun (x : Nat) => (x : Int))) R' C' M' g h D = some true := by
    intro d
    induction d with
    | zero =>
      intro k i hi hk
      obtain ⟨k, rfl⟩ : ∃ m, k = m + 1 := ⟨k - 1, by omega⟩
      rw [laws_FnTablesTurned.l0, if_neg (by omega)]
      exact hj4 k (by omega)
    | succ d ih =>
      intro k i hi hk
      obtain ⟨k, rfl⟩ : ∃ m, k = m + 1 := ⟨k - 1, by omega⟩
      have hmem : rd (emptyTo c ms r) (i : Int) ∈ emptyTo c ms r := by
        rw [rd_nat, List.getD_eq_getElem?_getD, List.getElem?_eq_getElem (by omega)]
        exact List.getElem_mem _
      obtain ⟨a, b, ha, hb, hab, hv⟩ := mem_emptyTo.1 hmem
      have hx : a * c + b < r * c := by
        have : (a + 1) * c ≤ r * c := Nat.mul_le_mul_right _ (by omega)
        rw [Nat.succ_mul] at this
        omega
      obtain ⟨p1, p2⟩ := cell_parts a b c hb
      rw [laws_FnTablesTurned.l0, if_pos (by omega), if_pos (by omega), if_pos (by omega), hv, vMarked_t hT2 _ hx, p1, p2, hab]
      simp only [Option.bind_some, Bool.false_eq_true, if_false]
      rw [vHas_no _ _ (by omega) (by
        intro hm
        obtain ⟨a', b', ha', hb', hab', hv'⟩ := mem_emptyTo.1 hm
        have e : a * c + b = a' * c + b' := by omega
        have q1 := (cell_parts a b c hb).1
        have q2 := (cell_parts a b c hb).2
        rw [e] at q1 q2
        rw [(cell_parts a' b' c hb').1] at q1
        rw [(cell_parts a' b' c hb').2] at q2
        subst q1 q2
        rw [natList_mk _ _ _ ha' hb', hab] at hab'
        cases hab') k (by omega)]
      simp only [Option.bind_some, Bool.false_eq_true, if_false]
      rw [wrap_ok (by omega) (by omega), show ((i : Int) + 1) = ((i + 1 : Nat) : Int) by omega]
      exact ih k (i + 1) (by omega) (by omega)
  exact main (emptyTo c ms r).length k 0 (by omega) (by omega)
theorem turned_j0_no (l1 : List Int) (z : Bool) (g h : Int) (D : List Int) (R C : Int) (M : List Int) (R' C' : Int) (M' : List Int) (hM : M.length ≤ 6) (hT : isTab R C M = false) (k : Nat) (hk : 1255000 < k) (hj4 : ∀ k, 1250200 < k → laws_FnTablesTurned.j4 k l1 z R C M R' C' M' g h D = some true) : laws_FnTablesTurned.j0 k l1 z false R C M R' C' M' g h D = some true := by
  obtain ⟨k, rfl⟩ : ∃ m, k = m + 2 := ⟨k - 2, by omega⟩
  rw [laws_FnTablesTurned.j0, if_neg (by simp)]
  obtain ⟨t1, t2, t3, t4⟩ := turn_no R C M hM hT (k + 1) (by omega)
  rw [t1, t2, t3, t4]
  simp only [Option.bind_some, bne_self_eq_false, Bool.false_eq_true, if_false]
  rw [vTable_k 0 0 [] (by simp) _ (by simp)]
  simp only [Option.bind_some, if_true]
  rw [IsTable_k R C M (by omega) (k + 1) (by omega), hT]
  simp only [Option.bind_some, bne_self_eq_false, Bool.false_eq_true, if_false]
  rw [laws_FnTablesTurned.j1]
  simp only [Bool.false_eq_true, if_false]
  exact hj4 k (by omega)
theorem turned_j1_yes (l1 : List Int) (z : Bool) (g h : Int) (D : List Int) (R' C' : Int) (M' : List Int) {r c : Nat} {ms : List Nat} (hT2 : Tb r c ms) (hj4 : ∀ k, 1250200 < k → laws_FnTablesTurned.j4 k l1 z (r : Int) (c : Int) (ms.map (fun (x : Nat) => (x : Int))) R' C' M' g h D = some true) (k : Nat) (hk : 1254000 < k) :
    laws_FnTablesTurned.j1 k l1 z true false (r : Int) (c : Int) (ms.map (fun (x : Nat) => (x : Int))) R' C' M' g h D (c : Int) (r : Int) (relList c r (fun j i => mk ms i j)) (r : Int) (c : Int) (relList r c (fun i j => !mk ms i j)) = some true := by
  obtain ⟨h1, h2, h3, h4, h5, h6⟩ := id hT2
  have lr : r * c ≤ 6 * 6 := Nat.mul_le_mul h2 h4
  have hMi := natList_tb h3 h4 h1 h2 (fun j i => mk ms i j)
  have hOp := natList_tb h1 h2 h3 h4 (fun i j => !mk ms i j)
  have lms : (ms.map (fun (x : Nat) => (x : Int))).length = r := by simp [h5]
  obtain ⟨k, rfl⟩ : ∃ m, k = m + 1 := ⟨k - 1, by omega⟩
  rw [laws_FnTablesTurned.j1]
  simp only [Bool.false_eq_true, if_false, if_true]
  have a1 := (mirror_yes hMi k (by omega)).1
  have a2 := (opp_yes hOp k (by omega)).1
  have e1 : relList r c (fun j i => mk (natList c r (fun j i => mk ms i j)) i j) = ms.map (fun (x : Nat) => (x : Int)) := relList_self hT2 (fun i j hi hj => natList_mk _ j i hj hi)
  have e2 : relList r c (fun i j => !mk (natList r c (fun i j => !mk ms i j)) i j) = ms.map (fun (x : Nat) => (x : Int)) := relList_self hT2 (fun i j hi hj => by rw [natList_mk _ i j hi hj]; simp)
  rw [← relList_nat, e1] at a1
  rw [← relList_nat, e2] at a2
  have a4 := empty_yes hOp k (by omega)
  rw [← relList_nat] at a4
  rw [a1, a2, text_yes hT2 k (by omega)]
  simp only [Option.bind_some]
  rw [parse_yes _ r c ms ⟨hT2, rfl⟩ k (by omega)]
  simp only [Option.bind_some]
  rw [empty_yes hT2 k (by omega), a4]
  simp only [Option.bind_some, if_true]
  rw [vTable_k _ _ _ (by omega) _ (by omega)]
  simp only [Option.bind_some, if_true]
  have hsum := emptyTo_sum c ms (natList r c (fun i j => !mk ms i j)) r (fun p q hp hq => natList_mk _ p q hp hq)
  have em : wrap64 ((r : Int) * (c : Int)) = ((r * c : Nat) : Int) := by rw [show (r : Int) * (c : Int) = ((r * c : Nat) : Int) by simp, wrap_ok (by omega) (by omega)]
  have es : wrap64 (((emptyTo c ms r).length : Int) + ((emptyTo c (natList r c (fun i j => !mk ms i j)) r).length : Int)) = ((r * c : Nat) : Int) := by rw [wrap_ok (by omega) (by omega)]; omega
  rw [em, es, bne_self_eq_false]
  obtain ⟨k, rfl⟩ : ∃ m, k = m + 1 := ⟨k - 1, by omega⟩
  rw [laws_FnTablesTurned.j2]
  simp only [Bool.false_eq_true, if_false]
  exact turned_loop l1 z g h D R' C' M' hT2 hj4 k (by omega)
theorem turned_j0_yes (l1 : List Int) (z : Bool) (g h : Int) (D : List Int) (R' C' : Int) (M' : List Int) {r c : Nat} {ms : List Nat} (hT2 : Tb r c ms) (hT : isTab (r : Int) (c : Int) (ms.map (fun (x : Nat) => (x : Int))) = true) (k : Nat) (hk : 1255000 < k) (hj4 : ∀ k, 1250200 < k → laws_FnTablesTurned.j4 k l1 z (r : Int) (c : Int) (ms.map (fun (x : Nat) => (x : Int))) R' C' M' g h D = some true) : laws_FnTablesTurned.j0 k l1 z false (r : Int) (c : Int) (ms.map (fun (x : Nat) => (x : Int))) R' C' M' g h D = some true := by
  obtain ⟨h1, h2, h3, h4, h5, h6⟩ := id hT2
  obtain ⟨k, rfl⟩ : ∃ m, k = m + 2 := ⟨k - 2, by omega⟩
  rw [laws_FnTablesTurned.j0, if_neg (by simp)]
  have lr : r * c ≤ 6 * 6 := Nat.mul_le_mul h2 h4
  have hMi := natList_tb h3 h4 h1 h2 (fun j i => mk ms i j)
  have hOp := natList_tb h1 h2 h3 h4 (fun i j => !mk ms i j)
  have lmi : (relList c r (fun j i => mk ms i j)).length = c := relList_length _ _ _
  have lop : (relList r c (fun i j => !mk ms i j)).length = r := relList_length _ _ _
  have lms : (ms.map (fun (x : Nat) => (x : Int))).length = r := by simp [h5]
  obtain ⟨m1, m2⟩ := mirror_yes hT2 (k + 1) (by omega)
  obtain ⟨o1, o2⟩ := opp_yes hT2 (k + 1) (by omega)
  rw [m1, m2, o1, o2]
  simp only [Option.bind_some, bne_self_eq_false, Bool.false_eq_true, if_false]
  rw [vTable_k _ _ _ (by omega) _ (by omega)]
  simp only [Option.bind_some, if_true]
  rw [vTable_k _ _ _ (by omega) _ (by omega)]
  simp only [Option.bind_some, if_true]
  rw [IsTable_k _ _ _ (by omega) (k + 1) (by omega), hT]
  simp only [Option.bind_some, bne_self_eq_false, Bool.false_eq_true, if_false]
  exact turned_j1_yes l1 z g h D R' C' M' hT2 hj4 (k + 1) (by omega)
theorem FnTablesTurned : laws_FnTablesTurned.Pure := by
  intro l0 l1 _ _ hb0 _ _ hb1
  have b0 := byte_wfT l0 hb0
  have b1 := byte_wfT l1 hb1
  by_cases hbig : (l0.length : Int) > 1048576
  · refine ⟨1, ?_⟩
    unfold laws_FnTablesTurned.f laws_big.f
    rw [if_pos hbig]
    rfl
  by_cases hbig2 : (l1.length : Int) > (wrap64 (1048576 - (l0.length : Int)))
  · refine ⟨1, ?_⟩
    unfold laws_FnTablesTurned.f laws_big.f
    rw [if_neg hbig, decide_eq_true hbig2]
    rfl
  have hl1 : l1.length ≤ 1048576 := by
    rw [wrap_ok (by omega) (by omega)] at hbig2
    omega
  obtain ⟨K, hK⟩ : ∃ K : Nat, 1260000 < K := ⟨1260001, by omega⟩
  refine ⟨K, ?_⟩
  obtain ⟨R, C, M, R', C', M', hM, hM', hD⟩ := drawMeet_ok l0 (by omega) b0 K (by omega)
  unfold laws_FnTablesTurned.f laws_big.f
  rw [if_neg hbig, decide_eq_false hbig2]
  simp only [Option.bind_some, Bool.false_eq_true, if_false]
  rw [hD]
  simp only [Option.bind_some]
  have turned : ∀ (z : Bool) (g h : Int) (D : List Int) (k : Nat), 1255000 < k → (∀ k, 1250200 < k → laws_FnTablesTurned.j4 k l1 z R C M R' C' M' g h D = some true) → laws_FnTablesTurned.j0 k l1 z false R C M R' C' M' g h D = some true := by
    intro z g h D k hk hj4
    cases hT : isTab R C M
    · exact turned_j0_no l1 z g h D R C M R' C' M' hM hT k hk hj4
    · obtain ⟨r, c, ms, rfl, rfl, rfl, hTb⟩ := (isTab_iff R C M).1 hT
      exact turned_j0_yes l1 z g h D R' C' M' hTb hT k hk hj4
  by_cases hA : isTab R C M = true ∧ isTab R' C' M' = true ∧ R = R' ∧ C = C'
  · obtain ⟨hT, hT', e1, e2⟩ := hA
    subst e1 e2
    obtain ⟨r, c, ms, rfl, rfl, rfl, hTb⟩ := (isTab_iff R C M).1 hT
    obtain ⟨r', c', ns, er, ec, rfl, hTb'⟩ := (isTab_iff _ _ M').1 hT'
    have er' : r' = r := by omega
    have ec' : c' = c := by omega
    subst er' ec'
    have hT2 : Tb r' c' ms := hTb
    have hT2' : Tb r' c' ns := hTb'
    obtain ⟨q1, q2⟩ := meet_yes hT2 hT2' K (by omega)
    have r6 := hT2.2.1
    have ll : (relList r' c' (fun i j => mk ms i j && mk ns i j)).length = r' := relList_length _ _ _
    rw [q1, q2]
    simp only [Option.bind_some, bne_self_eq_false, Bool.false_eq_true, if_false]
    rw [vTable_k _ _ _ (by omega) _ (by omega)]
    simp only [Option.bind_some, Bool.not_true]
    exact turned true _ _ _ K (by omega) (fun k hk => turned_j4_yes l1 hl1 b1 hT2 hT2' k (by omega))
  · obtain ⟨q1, q2⟩ := meet_no R C M R' C' M' hM hM' hA K (by omega)
    rw [q1, q2]
    simp only [Option.bind_some, bne_self_eq_false, Bool.false_eq_true, if_false]
    rw [vTable_k 0 0 [] (by simp) _ (by simp; omega)]
    simp only [Option.bind_some, Bool.not_true]
    exact turned false _ _ _ K (by omega) (fun k hk => turned_j4_no l1 hl1 b1 _ _ _ _ _ _ _ _ _ k (by omega))

end Go.Proofs.YtakabmokpknknaaDoor.Pure
