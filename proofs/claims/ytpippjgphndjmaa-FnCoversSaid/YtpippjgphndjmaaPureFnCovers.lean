/- Covers: for every two texts the law is true; no condition. -/
import Derived.Test.YtpippjgphndjmaaPFnCoversx10
namespace Go.Proofs.Ytpippjgphndjmaa.Pure
open Go.RowKit Go.Proofs.Ytpippjgphndjmaa.PFnCovers Go.Proofs.YtpippjgphndjmaaW.PrintWords Go.Proofs.YtpippjgphndjmaaW.PrintLast Go.Proofs.YtpippjgphndjmaaW.PrintMore
set_option linter.unusedVariables false
set_option linter.unusedSimpArgs false

theorem wrap_ok {x : Int} (h0 : -9223372036854775808 ≤ x) (h1 : x < 9223372036854775808) : wrap64 x = x := by unfold wrap64; omega
theorem wf_bounds {x : Int} (h : (Lit.int .i64 x).wf = true) : -9223372036854775808 ≤ x ∧ x < 9223372036854775808 := by
  have e : IntKind.i64.min ≤ x ∧ x ≤ 9223372036854775807 := by simpa [Lit.wf] using h
  have m : IntKind.i64.min = -9223372036854775808 := by decide
  omega
theorem rd_nat (l : List Int) (i : Nat) : rd l (i : Int) = l.getD i 0 := by simp [rd]

theorem within_eq (a b c : Int) : impl_within.f a b c = some (decide (b ≤ a ∧ a ≤ c)) := by
  unfold impl_within.f
  by_cases h : a ≥ b <;> simp [h] <;> omega
theorem l1In_eq (a b c : Int) : spec_l1In.f a b c = some (decide (b ≤ a ∧ a ≤ c)) := by
  unfold spec_l1In.f
  by_cases h : a ≥ b <;> simp [h] <;> omega

def allIn (l : List Int) (a b : Int) : Bool := l.all fun x => decide (a ≤ x ∧ x ≤ b)
theorem getD_drop (l : List Int) (i : Nat) (h : i < l.length) : l.drop i = l.getD i 0 :: l.drop (i + 1) := by
  rw [List.drop_eq_getElem_cons h]
  simp [h]
theorem allWithin_l0 (l : List Int) (a b : Int) (hl : l.length ≤ 4611686018427387904) : ∀ (d k i : Nat), i + d = l.length → d < k → impl_allWithin.l0 k a b l (l.length : Int) (i : Int) = some (allIn (l.drop i) a b) := by
  intro d
  induction d with
  | zero =>
    intro k i h hk
    obtain ⟨k, rfl⟩ : ∃ m, k = m + 1 := ⟨k - 1, by omega⟩
    simp only [impl_allWithin.l0]
    rw [if_neg (by omega), List.drop_eq_nil_of_le (by omega)]
    rfl
  | succ d ih =>
    intro k i h hk
    obtain ⟨k, rfl⟩ : ∃ m, k = m + 1 := ⟨k - 1, by omega⟩
    simp only [impl_allWithin.l0]
    rw [if_pos (by omega), if_pos (by omega), if_pos (by omega), wrap_ok (by omega) (by omega), within_eq, getD_drop l i (by omega), rd_nat]
    have e : ((i : Int) + 1) = ((i + 1 : Nat) : Int) := by omega
    rw [e, ih k (i + 1) (by omega) (by omega)]
    simp only [Option.bind_some, allIn, List.all_cons]
    cases decide (a ≤ l.getD i 0 ∧ l.getD i 0 ≤ b) <;> simp
theorem allWithin_k (l : List Int) (a b : Int) (hl : l.length ≤ 4611686018427387904) (k : Nat) (hk : l.length < k) : impl_allWithin.f k l a b = some (allIn l a b) := by
  unfold impl_allWithin.f
  exact allWithin_l0 l a b hl l.length k 0 (by omega) hk
theorem l1All_l0 (l : List Int) (a b : Int) (hl : l.length ≤ 4611686018427387904) : ∀ (d k i : Nat), i + d = l.length → d < k → spec_l1All.l0 k a b l (l.length : Int) (i : Int) = some (allIn (l.drop i) a b) := by
  intro d
  induction d with
  | zero =>
    intro k i h hk
    obtain ⟨k, rfl⟩ : ∃ m, k = m + 1 := ⟨k - 1, by omega⟩
    simp only [spec_l1All.l0]
    rw [if_neg (by omega), List.drop_eq_nil_of_le (by omega)]
    rfl
  | succ d ih =>
    intro k i h hk
    obtain ⟨k, rfl⟩ : ∃ m, k = m + 1 := ⟨k - 1, by omega⟩
    simp only [spec_l1All.l0]
    rw [if_pos (by omega), if_pos (by omega), if_pos (by omega), wrap_ok (by omega) (by omega), l1In_eq, getD_drop l i (by omega), rd_nat]
    have e : ((i : Int) + 1) = ((i + 1 : Nat) : Int) := by omega
    rw [e, ih k (i + 1) (by omega) (by omega)]
    simp only [Option.bind_some, allIn, List.all_cons]
    cases decide (a ≤ l.getD i 0 ∧ l.getD i 0 ≤ b) <;> simp
theorem l1All_k (l : List Int) (a b : Int) (hl : l.length ≤ 4611686018427387904) (k : Nat) (hk : l.length < k) : spec_l1All.f k l a b = some (allIn l a b) := by
  unfold spec_l1All.f
  exact l1All_l0 l a b hl l.length k 0 (by omega) hk

/-- A table, told as data. -/
def isTab (R C : Int) (M : List Int) : Bool := decide (1 ≤ R ∧ R ≤ 6) && decide (1 ≤ C ∧ C ≤ 6) && decide ((M.length : Int) = R) && allIn M 0 (wrap64 (shl .i64 1 C - 1))
theorem IsTable_k (R C : Int) (M : List Int) (hM : M.length ≤ 4611686018427387904) (k : Nat) (hk : M.length < k) : impl_IsTable.f k R C M = some (isTab R C M) := by
  unfold impl_IsTable.f isTab
  simp only [within_eq, Option.bind_some]
  by_cases h1 : 1 ≤ R ∧ R ≤ 6
  · by_cases h2 : 1 ≤ C ∧ C ≤ 6
    · by_cases h3 : (M.length : Int) = R
      · rw [if_pos h3, if_pos (show 0 ≤ C by omega), allWithin_k M _ _ hM k hk]
        simp [h1, h2, h3]
      · rw [if_neg h3]
        simp [h1, h2, h3]
    · simp [h1, h2]
  · simp [h1]
theorem feGood_k (R C : Int) (M : List Int) (hM : M.length ≤ 4611686018427387904) (k : Nat) (hk : M.length < k) : spec_feGood.f k R C M = some (isTab R C M) := by
  unfold spec_feGood.f isTab
  simp only [l1In_eq, Option.bind_some]
  by_cases h1 : 1 ≤ R ∧ R ≤ 6
  · by_cases h2 : 1 ≤ C ∧ C ≤ 6
    · by_cases h3 : (M.length : Int) = R
      · rw [if_pos h3, if_pos (show 0 ≤ C by omega), l1All_k M _ _ hM k hk]
        simp [h1, h2, h3]
      · rw [if_neg h3]
        simp [h1, h2, h3]
    · simp [h1, h2]
  · simp [h1]

/-! Sets as numbers. -/
def andn (a b : Nat) : Nat := a ^^^ (a &&& b)
theorem andn_bit (a b i : Nat) : (andn a b).testBit i = (a.testBit i && !b.testBit i) := by
  unfold andn
  rw [Nat.testBit_xor, Nat.testBit_and]
  cases a.testBit i <;> cases b.testBit i <;> rfl
theorem wrap_i64_nat (n : Nat) (h : n < 2 ^ 63) : IntKind.i64.wrap (n : Int) = (n : Int) := by
  rw [IntKind.wrap_i64]
  have : (n : Int) < 9223372036854775808 := by omega
  omega
theorem ofInt_toNat (n : Nat) (h : n < 2 ^ 63) : (BitVec.ofInt 64 (n : Int)).toNat = n := by
  rw [BitVec.ofInt_natCast, BitVec.toNat_ofNat, Nat.mod_eq_of_lt (by omega)]
theorem and_nat (a b : Nat) (ha : a < 2 ^ 63) (hb : b < 2 ^ 63) : Go.bits .and .i64 (a : Int) (b : Int) = ((a &&& b : Nat) : Int) := by
  unfold Go.bits
  show IntKind.i64.wrap ((BitVec.ofInt 64 (a : Int) &&& BitVec.ofInt 64 (b : Int)).toNat : Int) = _
  rw [BitVec.toNat_and, ofInt_toNat a ha, ofInt_toNat b hb]
  exact wrap_i64_nat _ (Nat.lt_of_le_of_lt Nat.and_le_left ha)
theorem or_nat (a b : Nat) (ha : a < 2 ^ 63) (hb : b < 2 ^ 63) : Go.bits .or .i64 (a : Int) (b : Int) = ((a ||| b : Nat) : Int) := by
  unfold Go.bits
  show IntKind.i64.wrap ((BitVec.ofInt 64 (a : Int) ||| BitVec.ofInt 64 (b : Int)).toNat : Int) = _
  rw [BitVec.toNat_or, ofInt_toNat a ha, ofInt_toNat b hb]
  exact wrap_i64_nat _ (Nat.or_lt_two_pow ha hb)
theorem xor_nat (a b : Nat) (ha : a < 2 ^ 63) (hb : b < 2 ^ 63) : Go.bits .xor .i64 (a : Int) (b : Int) = ((a ^^^ b : Nat) : Int) := by
  unfold Go.bits
  show IntKind.i64.wrap ((BitVec.ofInt 64 (a : Int) ^^^ BitVec.ofInt 64 (b : Int)).toNat : Int) = _
  rw [BitVec.toNat_xor, ofInt_toNat a ha, ofInt_toNat b hb]
  exact wrap_i64_nat _ (Nat.xor_lt_two_pow ha hb)
theorem andn_le (a b : Nat) : andn a b ≤ a := Nat.le_of_testBit fun i h => by
  rw [andn_bit] at h
  cases h1 : a.testBit i
  · simp [h1] at h
  · rfl
theorem andNot_nat (a b : Nat) (ha : a < 2 ^ 63) (hb : b < 2 ^ 63) : Go.bits .andNot .i64 (a : Int) (b : Int) = ((andn a b : Nat) : Int) := by
  unfold Go.bits
  show IntKind.i64.wrap ((BitVec.ofInt 64 (a : Int) &&& ~~~ BitVec.ofInt 64 (b : Int)).toNat : Int) = _
  have e : (BitVec.ofInt 64 (a : Int) &&& ~~~ BitVec.ofInt 64 (b : Int)).toNat = andn a b := by
    apply Nat.eq_of_testBit_eq
    intro i
    rw [andn_bit, BitVec.toNat_and, Nat.testBit_and, ofInt_toNat a ha, BitVec.testBit_toNat, BitVec.getLsbD_not, BitVec.ofInt_natCast, BitVec.getLsbD_ofNat]
    by_cases hi : i < 64
    · rw [decide_eq_true hi]
      simp only [Bool.true_and]
    · have : a.testBit i = false := Nat.testBit_lt_two_pow (Nat.lt_of_lt_of_le ha (Nat.pow_le_pow_right (by omega) (by omega)))
      simp [this]
  rw [e]
  exact wrap_i64_nat _ (Nat.lt_of_le_of_lt (andn_le a b) ha)
theorem andn_zero (a b : Nat) : andn a b = 0 ↔ ∀ i, a.testBit i = true → b.testBit i = true := by
  constructor
  · intro h i hi
    have := andn_bit a b i
    rw [h, hi] at this
    cases hb : b.testBit i
    · simp [hb] at this
    · rfl
  · intro h
    apply Nat.eq_of_testBit_eq
    intro i
    rw [andn_bit]
    cases ha : a.testBit i
    · simp
    · simp [h i ha]
theorem andn_zero_le {a b : Nat} (h : andn a b = 0) : a ≤ b := Nat.le_of_testBit fun i hi => (andn_zero a b).1 h i hi
theorem andNot_le {p i : Int} (h0 : 0 ≤ p) (h1 : 0 ≤ i) (hp : p < 9223372036854775808) (hi : i < 9223372036854775808) (h : Go.bits .andNot .i64 p i = 0) : p ≤ i := by
  obtain ⟨a, rfl⟩ := Int.eq_ofNat_of_zero_le h0
  obtain ⟨b, rfl⟩ := Int.eq_ofNat_of_zero_le h1
  rw [andNot_nat a b (by omega) (by omega)] at h
  have := andn_zero_le (a := a) (b := b) (by omega)
  omega

/-- The set of the j < n for which q tells true. -/
def bitsum (q : Nat → Bool) : Nat → Nat
  | 0 => 0
  | j + 1 => bitsum q j ||| (if q j then 2 ^ j else 0)
theorem bitsum_lt (q : Nat → Bool) (n : Nat) : bitsum q n < 2 ^ n := by
  induction n with
  | zero => simp [bitsum]
  | succ n ih =>
    rw [bitsum]
    apply Nat.or_lt_two_pow
    · exact Nat.lt_of_lt_of_le ih (Nat.pow_le_pow_right (by omega) (by omega))
    · split
      · exact Nat.pow_lt_pow_right (by omega) (by omega)
      · exact Nat.two_pow_pos _
theorem bitsum_bit (q : Nat → Bool) (n i : Nat) : (bitsum q n).testBit i = (decide (i < n) && q i) := by
  induction n with
  | zero => simp [bitsum]
  | succ n ih =>
    rw [bitsum, Nat.testBit_or, ih]
    by_cases e : i = n
    · subst e
      cases h : q i <;> simp [Nat.testBit_two_pow_self]
    · have : (if q n then 2 ^ n else 0).testBit i = false := by
        split
        · rw [Nat.testBit_two_pow_of_ne (by omega)]
        · simp
      rw [this]
      by_cases h : i < n
      · simp [h, show i < n + 1 by omega]
      · simp [h, show ¬ i < n + 1 by omega]
theorem bitsum_congr {q q' : Nat → Bool} (n : Nat) (h : ∀ i, i < n → q i = q' i) : bitsum q n = bitsum q' n := by
  induction n with
  | zero => rfl
  | succ n ih => rw [bitsum, bitsum, ih (fun i hi => h i (by omega)), h n (by omega)]
theorem shl_one (j : Nat) (h : j < 62) : shl .i64 1 (j : Int) = ((2 ^ j : Nat) : Int) := by
  unfold shl
  have e : min (j : Int).toNat IntKind.i64.bits = j := by
    show min (j : Int).toNat 64 = j
    omega
  rw [e]
  have e2 : (1 : Int) * 2 ^ j = ((2 ^ j : Nat) : Int) := by simp
  rw [e2]
  exact wrap_i64_nat _ (Nat.pow_lt_pow_right (by omega) (by omega))
theorem or_shl (a j : Nat) (ha : a < 2 ^ 62) (hj : j < 62) : Go.bits .or .i64 (a : Int) (shl .i64 1 (j : Int)) = ((a ||| 2 ^ j : Nat) : Int) := by
  rw [shl_one j hj]
  exact or_nat a _ (Nat.lt_of_lt_of_le ha (by decide)) (Nat.pow_lt_pow_right (by omega) (by omega))
/-- The rows' sets. -/
def relList (R C : Nat) (p : Nat → Nat → Bool) : List Int := (List.range R).map fun i => ((bitsum (p i) C : Nat) : Int)
theorem relList_length (R C : Nat) (p : Nat → Nat → Bool) : (relList R C p).length = R := by simp [relList]
theorem relList_congr {R C : Nat} {p p' : Nat → Nat → Bool} (h : ∀ i j, i < R → j < C → p i j = p' i j) : relList R C p = relList R C p' := by
  unfold relList
  apply List.map_congr_left
  intro i hi
  rw [bitsum_congr C (fun j hj => h i j (by simpa using hi) hj)]
/-- A list that is being filled: the first i rows are whole, the row i has the columns < j, the others are 0. -/
def part (R C : Nat) (p : Nat → Nat → Bool) (i j : Nat) : List Int := (List.range R).map fun r => if r < i then ((bitsum (p r) C : Nat) : Int) else if r = i then ((bitsum (p r) j : Nat) : Int) else 0
theorem part_length (R C : Nat) (p : Nat → Nat → Bool) (i j : Nat) : (part R C p i j).length = R := by simp [part]
theorem part_start (R C : Nat) (p : Nat → Nat → Bool) : List.replicate R 0 = part R C p 0 0 := by
  apply List.ext_getElem?
  intro r
  by_cases h : r < R
  · simp [part, h, List.getElem?_replicate, bitsum]
  · rw [List.getElem?_eq_none (by simp; omega), List.getElem?_eq_none (by rw [part_length]; omega)]
theorem part_next (R C : Nat) (p : Nat → Nat → Bool) (i : Nat) : part R C p i C = part R C p (i + 1) 0 := by
  apply List.ext_getElem?
  intro r
  by_cases h : r < R
  · simp only [part, List.getElem?_map, List.getElem?_range h, Option.map_some]
    by_cases h1 : r < i
    · simp [h1, show r < i + 1 by omega]
    · by_cases h2 : r = i
      · simp [h2]
      · simp [h1, h2, show ¬ r < i + 1 by omega, bitsum]
  · rw [List.getElem?_eq_none (by rw [part_length]; omega), List.getElem?_eq_none (by rw [part_length]; omega)]
theorem part_end (R C : Nat) (p : Nat → Nat → Bool) : part R C p R 0 = relList R C p := by
  unfold part relList
  apply List.map_congr_left
  intro r hr
  rw [if_pos (by simpa using hr)]
theorem part_rd (R C : Nat) (p : Nat → Nat → Bool) (i j : Nat) (hi : i < R) : rd (part R C p i j) (i : Int) = ((bitsum (p i) j : Nat) : Int) := by
  rw [rd_nat]
  simp [part, List.getD_eq_getElem?_getD, hi]
theorem part_set (R C : Nat) (p : Nat → Nat → Bool) (i j : Nat) (hi : i < R) (hp : p i j = true) : (part R C p i j).set i ((bitsum (p i) j ||| 2 ^ j : Nat) : Int) = part R C p i (j + 1) := by
  apply List.ext_getElem?
  intro r
  by_cases h : r < R
  · rw [List.getElem?_set]
    simp only [part, List.getElem?_map, List.getElem?_range h, Option.map_some, List.length_map, List.length_range]
    by_cases e : i = r
    · subst e
      simp [h, bitsum, hp]
    · rw [if_neg e]
      simp [show ¬ r = i from fun h => e h.symm]
  · rw [List.getElem?_eq_none (by simp [part_length]; omega), List.getElem?_eq_none (by rw [part_length]; omega)]
theorem part_skip (R C : Nat) (p : Nat → Nat → Bool) (i j : Nat) (hp : p i j = false) : part R C p i j = part R C p i (j + 1) := by
  unfold part
  apply List.map_congr_left
  intro r _
  by_cases h1 : r < i
  · simp [h1]
  · by_cases h2 : r = i
    · subst h2
      simp [bitsum, hp]
    · simp [h1, h2]

theorem table_l0 (R C : Nat) (hR : R ≤ 60) (hC : C ≤ 60) (is : Int → Int → Option Bool) (p : Nat → Nat → Bool) (h : ∀ i j : Nat, i < R → j < C → is i j = some (p i j)) :
    ∀ (d k i : Nat), i + d = R → d * (C + 3) < k → impl_table.l0 k (C : Int) is (R : Int) (i : Int) (R : Int) (C : Int) (part R C p i 0) = some ((R : Int), (C : Int), relList R C p) := by
  intro d
  induction d with
  | zero =>
    intro k i hi hk
    obtain ⟨k, rfl⟩ : ∃ m, k = m + 1 := ⟨k - 1, by omega⟩
    simp only [impl_table.l0]
    have e : i = R := by omega
    subst e
    rw [if_neg (by omega), part_end]
  | succ d ih =>
    intro k i hi hk
    rw [Nat.succ_mul] at hk
    obtain ⟨k, rfl⟩ : ∃ m, k = m + 1 := ⟨k - 1, by omega⟩
    simp only [impl_table.l0]
    rw [if_pos (by omega)]
    have inner : ∀ (e k j : Nat), j + e = C → d * (C + 3) + 1 + e < k → impl_table.l1 k (C : Int) is (i : Int) (R : Int) (i : Int) (C : Int) (j : Int) (R : Int) (C : Int) (part R C p i j) = some ((R : Int), (C : Int), relList R C p) := by
      intro e
      induction e with
      | zero =>
        intro k j hj hk
        obtain ⟨k, rfl⟩ : ∃ m, k = m + 1 := ⟨k - 1, by omega⟩
        simp only [impl_table.l1]
        have e1 : ((i : Int) + 1) = ((i + 1 : Nat) : Int) := by omega
        have e2 : j = C := by omega
        subst e2
        rw [if_neg (by omega), wrap_ok (by omega) (by omega), e1, part_next]
        exact ih k (i + 1) (by omega) (by omega)
      | succ e ihe =>
        intro k j hj hk
        obtain ⟨k, rfl⟩ : ∃ m, k = m + 1 := ⟨k - 1, by omega⟩
        simp only [impl_table.l1]
        have e1 : ((j : Int) + 1) = ((j + 1 : Nat) : Int) := by omega
        have e3 : (i : Int).toNat = i := by omega
        rw [if_pos (by omega), h i j (by omega) (by omega), wrap_ok (by omega) (by omega), e1, e3]
        simp only [Option.bind_some]
        cases hp : p i j
        · rw [if_neg (by simp), part_skip R C p i j hp]
          exact ihe k (j + 1) (by omega) (by omega)
        · rw [if_pos rfl, if_pos (by omega), if_pos (by rw [part_length]; omega), if_pos (by omega), part_rd R C p i j (by omega), or_shl _ j (Nat.lt_of_lt_of_le (bitsum_lt (p i) j) (Nat.pow_le_pow_right (by omega) (by omega))) (by omega), part_set R C p i j (by omega) hp]
          exact ihe k (j + 1) (by omega) (by omega)
    exact inner C k 0 (by omega) (by omega)
/-- The table of what is told of each cell. -/
theorem table_k (R C : Nat) (hR : R ≤ 60) (hC : C ≤ 60) (is : Int → Int → Option Bool) (p : Nat → Nat → Bool) (h : ∀ i j : Nat, i < R → j < C → is i j = some (p i j)) (k : Nat) (hk : R * (C + 3) < k) :
    impl_table.f k (R : Int) (C : Int) is = some ((R : Int), (C : Int), relList R C p) := by
  unfold impl_table.f
  rw [if_pos (by omega), if_pos (by omega)]
  have e : ((R : Int)).toNat = R := by omega
  rw [e, part_start R C p]
  exact table_l0 R C hR hC is p h R k 0 (by omega) hk

/-- The columns of a table's marks, as a number. -/
theorem allIn_iff (l : List Int) (a b : Int) : allIn l a b = true ↔ ∀ x ∈ l, a ≤ x ∧ x ≤ b := by
  unfold allIn
  rw [List.all_eq_true]
  simp
/-- What a table is: its rows, its columns, and each row's marks as a number. -/
theorem isTab_iff (R C : Int) (M : List Int) : isTab R C M = true ↔ ∃ (r c : Nat) (ms : List Nat), R = (r : Int) ∧ C = (c : Int) ∧ M = ms.map (fun (x : Nat) => (x : Int)) ∧ 1 ≤ r ∧ r ≤ 6 ∧ 1 ≤ c ∧ c ≤ 6 ∧ ms.length = r ∧ ∀ x ∈ ms, x < 2 ^ c := by
  unfold isTab
  simp only [Bool.and_eq_true, decide_eq_true_eq, allIn_iff]
  constructor
  · rintro ⟨⟨⟨h1, h2⟩, h3⟩, h4⟩
    have ec : C = ((C.toNat : Nat) : Int) := by omega
    have e5 : wrap64 (shl .i64 1 C - 1) = ((2 ^ C.toNat - 1 : Nat) : Int) := by
      rw [ec, shl_one C.toNat (by omega)]
      have hp : 0 < 2 ^ C.toNat := Nat.two_pow_pos _
      have hq : 2 ^ C.toNat ≤ 2 ^ 6 := Nat.pow_le_pow_right (by omega) (by omega)
      have e6 : (((C.toNat : Nat) : Int)).toNat = C.toNat := by omega
      rw [e6, wrap_ok (by omega) (by omega)]
      omega
    rw [e5] at h4
    refine ⟨R.toNat, C.toNat, M.map Int.toNat, by omega, ec, ?_, by omega, by omega, by omega, by omega, by simp; omega, ?_⟩
    · rw [List.map_map]
      conv => lhs; rw [← List.map_id M]
      apply List.map_congr_left
      intro x hx
      have := h4 x hx
      show x = ((x.toNat : Nat) : Int)
      omega
    · intro x hx
      obtain ⟨y, hy, rfl⟩ := List.mem_map.1 hx
      have := h4 y hy
      have hp : 0 < 2 ^ C.toNat := Nat.two_pow_pos _
      omega
  · rintro ⟨r, c, ms, rfl, rfl, rfl, h1, h2, h3, h4, h5, h6⟩
    have hp : 0 < 2 ^ c := Nat.two_pow_pos _
    have hq : 2 ^ c ≤ 2 ^ 6 := Nat.pow_le_pow_right (by omega) (by omega)
    have e5 : wrap64 (shl .i64 1 (c : Int) - 1) = ((2 ^ c - 1 : Nat) : Int) := by
      rw [shl_one c (by omega), wrap_ok (by omega) (by omega)]
      omega
    refine ⟨⟨⟨by omega, by omega⟩, by simp; omega⟩, ?_⟩
    intro x hx
    obtain ⟨y, hy, rfl⟩ := List.mem_map.1 hx
    have := h6 y hy
    rw [e5]
    omega
/-- Is a row marked in a column? -/
def mk (ms : List Nat) (r c : Nat) : Bool := (ms.getD r 0).testBit c
theorem rd_map (ms : List Nat) (i : Nat) : rd (ms.map (fun (x : Nat) => (x : Int))) (i : Int) = ((ms.getD i 0 : Nat) : Int) := by
  rw [rd_nat]
  simp only [List.getD_eq_getElem?_getD, List.getElem?_map]
  cases ms[i]? <;> simp
theorem getD_lt {ms : List Nat} {b : Nat} (hb : 0 < b) (h : ∀ x ∈ ms, x < b) (i : Nat) : ms.getD i 0 < b := by
  rw [List.getD_eq_getElem?_getD]
  cases hx : ms[i]? with
  | none => simpa using hb
  | some x => exact h x (List.mem_of_getElem? hx)
/-- The bit of a number, as Go asks it. -/
theorem shr_nat (x c : Nat) (hc : c < 64) : shr .i64 (x : Int) (c : Int) = ((x / 2 ^ c : Nat) : Int) := by
  unfold shr
  have e : min (c : Int).toNat IntKind.i64.bits = c := by
    show min (c : Int).toNat 64 = c
    omega
  rw [e]
  simp
theorem bit_and (x c : Nat) (hx : x < 2 ^ 63) (hc : c < 64) : (Go.bits .and .i64 (shr .i64 (x : Int) (c : Int)) 1 == 1) = x.testBit c := by
  rw [shr_nat x c hc]
  have h1 : x / 2 ^ c < 2 ^ 63 := Nat.lt_of_le_of_lt (Nat.div_le_self _ _) hx
  have e : Go.bits .and .i64 ((x / 2 ^ c : Nat) : Int) 1 = ((x / 2 ^ c &&& 1 : Nat) : Int) := and_nat _ 1 h1 (by decide)
  rw [e, Nat.and_one_is_mod]
  have e2 : x.testBit c = decide (x / 2 ^ c % 2 = 1) := Nat.testBit_eq_decide_div_mod_eq
  rw [e2]
  by_cases h : x / 2 ^ c % 2 = 1
  · simp [h]
  · have : x / 2 ^ c % 2 = 0 := by omega
    simp [this]
theorem marked_k (R C : Int) (ms : List Nat) (r c : Nat) (hb : ∀ x ∈ ms, x < 64) (hr : r < ms.length) (hc : c < 60) : impl_Table_marked.f R C (ms.map (fun (x : Nat) => (x : Int))) (r : Int) (c : Int) = some (mk ms r c) := by
  unfold impl_Table_marked.f mk
  have := getD_lt (b := 64) (by omega) hb r
  rw [if_pos (by omega), if_pos (by simpa using hr), if_pos (by omega), rd_map, bit_and _ c (by omega) (by omega)]

theorem tmod_nat (n : Nat) : Int.tmod (n : Int) 2 = ((n % 2 : Nat) : Int) := by
  rw [Int.tmod_eq_emod_of_nonneg (by omega)]
  omega
theorem orHas_k (x i : Nat) (hi : i < 64) : spec_orHas.f (x : Int) (i : Int) = some (x.testBit i) := by
  unfold spec_orHas.f
  rw [if_pos (by omega), shr_nat x i hi, tmod_nat]
  have e2 : x.testBit i = decide (x / 2 ^ i % 2 = 1) := Nat.testBit_eq_decide_div_mod_eq
  rw [e2]
  congr 1
  by_cases h : x / 2 ^ i % 2 = 1
  · simp [h]
  · have : x / 2 ^ i % 2 = 0 := by omega
    simp [this]

/-- Each number of a list, from an index, is more than the one before. -/
def Rising (l : List Int) : Prop := ∀ j, 1 ≤ j → j < l.length → l.getD (j - 1) 0 < l.getD j 0
theorem isIncreasing_l0 (l : List Int) (hl : l.length ≤ 4611686018427387904) : ∀ (d k i : Nat), i + d = l.length ∨ (d = 0 ∧ l.length < i) → 1 ≤ i → i ≤ 4611686018427387904 → d < k →
    ∃ b, impl_isIncreasing.l0 k l (i : Int) = some b ∧ (b = true ↔ ∀ j, i ≤ j → j < l.length → l.getD (j - 1) 0 < l.getD j 0) := by
  intro d
  induction d with
  | zero =>
    intro k i h _ _ hk
    obtain ⟨k, rfl⟩ : ∃ m, k = m + 1 := ⟨k - 1, by omega⟩
    simp only [impl_isIncreasing.l0]
    refine ⟨true, by rw [if_neg (by omega)], ?_⟩
    simp only [true_iff]
    intro j h1 h2
    omega
  | succ d ih =>
    intro k i h h1 hi hk
    obtain ⟨k, rfl⟩ : ∃ m, k = m + 1 := ⟨k - 1, by omega⟩
    simp only [impl_isIncreasing.l0]
    have e : ((i : Int) - 1) = ((i - 1 : Nat) : Int) := by omega
    have e2 : ((i : Int) + 1) = ((i + 1 : Nat) : Int) := by omega
    rw [if_pos (by omega), wrap_ok (by omega) (by omega), wrap_ok (by omega) (by omega), if_pos (by omega), if_pos (by omega), if_pos (by omega), e, rd_nat, rd_nat, e2]
    by_cases hc : l.getD (i - 1) 0 ≥ l.getD i 0
    · refine ⟨false, by rw [if_pos hc], ?_⟩
      constructor
      · intro hh
        cases hh
      · intro hh
        have := hh i (by omega) (by omega)
        omega
    · obtain ⟨b, hb1, hb2⟩ := ih k (i + 1) (by omega) (by omega) (by omega) (by omega)
      refine ⟨b, by rw [if_neg hc, hb1], hb2.trans ?_⟩
      constructor
      · intro hh j h3 h4
        by_cases he : j = i
        · subst he
          omega
        · exact hh j (by omega) h4
      · intro hh j h3 h4
        exact hh j (by omega) h4
theorem isIncreasing_k (l : List Int) (hl : l.length ≤ 4611686018427387900) (k : Nat) (hk : l.length < k) : ∃ b, impl_isIncreasing.f k l = some b ∧ (b = true ↔ Rising l) := by
  unfold impl_isIncreasing.f
  cases l with
  | nil => exact isIncreasing_l0 [] (by simp) 0 k 1 (by simp) (by omega) (by omega) (by simp at hk; omega)
  | cons a l => exact isIncreasing_l0 (a :: l) (by omega) l.length k 1 (by simp; omega) (by omega) (by omega) (by simp at hk; omega)
/-- In the bounds and rising. -/
def InRise (l : List Int) (a b : Int) (i : Nat) : Prop := ∀ j, i ≤ j → j < l.length → (a ≤ l.getD j 0 ∧ l.getD j 0 ≤ b) ∧ (1 ≤ j → l.getD (j - 1) 0 < l.getD j 0)
theorem rising_l0 (l : List Int) (a b : Int) (hl : l.length ≤ 4611686018427387900) : ∀ (d k i : Nat), i + d = l.length → d < k →
    ∃ r, spec_l1Rising.l0 k l a b l (l.length : Int) (i : Int) = some r ∧ (r = true ↔ InRise l a b i) := by
  intro d
  induction d with
  | zero =>
    intro k i h hk
    obtain ⟨k, rfl⟩ : ∃ m, k = m + 1 := ⟨k - 1, by omega⟩
    simp only [spec_l1Rising.l0]
    refine ⟨true, by rw [if_neg (by omega)], ?_⟩
    simp only [true_iff]
    intro j h1 h2
    omega
  | succ d ih =>
    intro k i h hk
    obtain ⟨k, rfl⟩ : ∃ m, k = m + 1 := ⟨k - 1, by omega⟩
    obtain ⟨r, hr1, hr2⟩ := ih k (i + 1) (by omega) (by omega)
    simp only [spec_l1Rising.l0]
    have e2 : ((i : Int) + 1) = ((i + 1 : Nat) : Int) := by omega
    rw [if_pos (by omega), if_pos (by omega), if_pos (by omega), wrap_ok (x := (i : Int) + 1) (by omega) (by omega), l1In_eq, rd_nat, e2, hr1]
    simp only [Option.bind_some]
    by_cases h1 : a ≤ l.getD i 0 ∧ l.getD i 0 ≤ b
    · rw [if_pos (by simpa using h1)]
      by_cases h0 : i = 0
      · subst h0
        refine ⟨r, by rw [if_neg (by omega)], hr2.trans ?_⟩
        constructor
        · intro hh j h3 h4
          by_cases he : j = 0
          · subst he
            exact ⟨h1, fun h => by omega⟩
          · exact hh j (by omega) h4
        · intro hh j h3 h4
          exact hh j (by omega) h4
      · have e : ((i : Int) - 1) = ((i - 1 : Nat) : Int) := by omega
        rw [if_pos (by omega), wrap_ok (by omega) (by omega), if_pos (by omega), if_pos (by omega), e, rd_nat]
        by_cases hc : l.getD (i - 1) 0 ≥ l.getD i 0
        · refine ⟨false, by rw [if_pos hc], ?_⟩
          constructor
          · intro hh
            cases hh
          · intro hh
            have := (hh i (by omega) (by omega)).2 (by omega)
            omega
        · refine ⟨r, by rw [if_neg hc], hr2.trans ?_⟩
          constructor
          · intro hh j h3 h4
            by_cases he : j = i
            · subst he
              exact ⟨h1, fun _ => by omega⟩
            · exact hh j (by omega) h4
          · intro hh j h3 h4
            exact hh j (by omega) h4
    · refine ⟨false, by rw [if_neg (by simpa using h1)], ?_⟩
      constructor
      · intro hh
        cases hh
      · intro hh
        exact absurd (hh i (by omega) (by omega)).1 h1
theorem rising_k (l : List Int) (a b : Int) (hl : l.length ≤ 4611686018427387900) (k : Nat) (hk : l.length < k) : ∃ r, spec_l1Rising.f k l a b = some r ∧ (r = true ↔ InRise l a b 0) := by
  unfold spec_l1Rising.f
  exact rising_l0 l a b hl l.length k 0 (by omega) hk

/-- Is a cell without a mark? -/
def unm (C : Nat) (ms : List Nat) (x : Int) : Prop := mk ms (x.toNat / C) (x.toNat % C) = false
/-- What both call cells. -/
def Cells (N : Int) (C : Nat) (ms : List Nat) (l : List Int) : Prop := (∀ j, j < l.length → (0 ≤ l.getD j 0 ∧ l.getD j 0 ≤ N - 1) ∧ unm C ms (l.getD j 0)) ∧ Rising l
theorem tdiv_nat (x : Int) (C : Nat) (h : 0 ≤ x) : Int.tdiv x (C : Int) = ((x.toNat / C : Nat) : Int) := by
  obtain ⟨n, rfl⟩ := Int.eq_ofNat_of_zero_le h
  rfl
theorem tmod_nat2 (x : Int) (C : Nat) (h : 0 ≤ x) : Int.tmod x (C : Int) = ((x.toNat % C : Nat) : Int) := by
  obtain ⟨n, rfl⟩ := Int.eq_ofNat_of_zero_le h
  rfl
theorem area_eq (R C : Nat) (hR : R ≤ 6) (hC : C ≤ 6) : wrap64 (wrap64 ((R : Int) * (C : Int)) - 1) = ((R * C : Nat) : Int) - 1 := by
  have h : R * C ≤ 6 * 6 := Nat.mul_le_mul hR hC
  have e : (R : Int) * (C : Int) = ((R * C : Nat) : Int) := by simp
  rw [e, wrap_ok (x := ((R * C : Nat) : Int)) (by omega) (by omega), wrap_ok (by omega) (by omega)]
theorem wrap_small (n : Nat) (h : n < 1000) : wrap64 (n : Int) = (n : Int) := wrap_ok (by omega) (by omega)
theorem cell_row (R C : Nat) (x : Int) (h0 : 0 ≤ x) (h : x ≤ ((R * C : Nat) : Int) - 1) : x.toNat / C < R := by
  apply Nat.div_lt_of_lt_mul
  rw [Nat.mul_comm]
  omega
theorem areCells_l0 (R C : Nat) (ms : List Nat) (hR : ms.length = R) (hR6 : R ≤ 6) (hC0 : 1 ≤ C) (hC : C ≤ 6) (hb : ∀ x ∈ ms, x < 64) (l : List Int) (hl : l.length ≤ 1048576) : ∀ (d k i : Nat), i + d = l.length → d + l.length + 1 < k →
    ∃ b, impl_Table_areCells.l0 k l l (l.length : Int) (i : Int) (R : Int) (C : Int) (ms.map (fun (x : Nat) => (x : Int))) = some b ∧ (b = true ↔ (∀ j, i ≤ j → j < l.length → (0 ≤ l.getD j 0 ∧ l.getD j 0 ≤ ((R * C : Nat) : Int) - 1) ∧ unm C ms (l.getD j 0)) ∧ Rising l) := by
  intro d
  induction d with
  | zero =>
    intro k i h hk
    obtain ⟨k, rfl⟩ : ∃ m, k = m + 1 := ⟨k - 1, by omega⟩
    simp only [impl_Table_areCells.l0]
    obtain ⟨b, hb1, hb2⟩ := isIncreasing_k l (by omega) k (by omega)
    refine ⟨b, by rw [if_neg (by omega), hb1]; rfl, hb2.trans ⟨fun hh => ⟨fun j h1 h2 => by omega, hh⟩, fun hh => hh.2⟩⟩
  | succ d ih =>
    intro k i h hk
    obtain ⟨k, rfl⟩ : ∃ m, k = m + 1 := ⟨k - 1, by omega⟩
    obtain ⟨b, hb1, hb2⟩ := ih k (i + 1) (by omega) (by omega)
    simp only [impl_Table_areCells.l0]
    have e2 : ((i : Int) + 1) = ((i + 1 : Nat) : Int) := by omega
    rw [if_pos (by omega), if_pos (by omega), if_pos (by omega), area_eq R C hR6 hC, within_eq, rd_nat]
    simp only [Option.bind_some]
    by_cases h1 : 0 ≤ l.getD i 0 ∧ l.getD i 0 ≤ ((R * C : Nat) : Int) - 1
    · have hrow := cell_row R C (l.getD i 0) h1.1 h1.2
      have hcol : (l.getD i 0).toNat % C < C := Nat.mod_lt _ (by omega)
      rw [if_pos (by simpa using h1), if_neg (by omega), tdiv_nat _ _ h1.1, tmod_nat2 _ _ h1.1, wrap_small _ (Nat.lt_of_lt_of_le hrow (by omega)), wrap_ok (x := (i : Int) + 1) (by omega) (by omega), marked_k (R : Int) (C : Int) ms _ _ hb (by omega) (by omega), e2, hb1]
      simp only [Option.bind_some]
      cases hm : mk ms ((l.getD i 0).toNat / C) ((l.getD i 0).toNat % C)
      · refine ⟨b, by rw [if_neg (by simp)], hb2.trans ?_⟩
        constructor
        · intro hh
          refine ⟨fun j h3 h4 => ?_, hh.2⟩
          by_cases he : j = i
          · subst he
            exact ⟨h1, hm⟩
          · exact hh.1 j (by omega) h4
        · intro hh
          exact ⟨fun j h3 h4 => hh.1 j (by omega) h4, hh.2⟩
      · refine ⟨false, by rw [if_pos rfl], ?_⟩
        constructor
        · intro hh
          cases hh
        · intro hh
          have := (hh.1 i (by omega) (by omega)).2
          unfold unm at this
          rw [hm] at this
          cases this
    · refine ⟨false, by rw [if_neg (by simpa using h1)], ?_⟩
      constructor
      · intro hh
        cases hh
      · intro hh
        exact absurd (hh.1 i (by omega) (by omega)).1 h1
theorem feCells_l0 (R C : Nat) (ms : List Nat) (hR : ms.length = R) (hR6 : R ≤ 6) (hC0 : 1 ≤ C) (hC : C ≤ 6) (hb : ∀ x ∈ ms, x < 64) (l : List Int) (hl : l.length ≤ 1048576) (h6 : R * C ≤ 36) (hin : ∀ j, j < l.length → 0 ≤ l.getD j 0 ∧ l.getD j 0 ≤ ((R * C : Nat) : Int) - 1) : ∀ (d k i : Nat), i + d = l.length → d < k →
    ∃ b, spec_feCells.l0 k l (l.length : Int) (i : Int) (R : Int) (C : Int) (ms.map (fun (x : Nat) => (x : Int))) = some b ∧ (b = true ↔ (∀ j, i ≤ j → j < l.length → unm C ms (l.getD j 0))) := by
  intro d
  induction d with
  | zero =>
    intro k i h hk
    obtain ⟨k, rfl⟩ : ∃ m, k = m + 1 := ⟨k - 1, by omega⟩
    simp only [spec_feCells.l0]
    refine ⟨true, by rw [if_neg (by omega)], ?_⟩
    simp only [true_iff]
    intro j h1 h2
    omega
  | succ d ih =>
    intro k i h hk
    obtain ⟨k, rfl⟩ : ∃ m, k = m + 1 := ⟨k - 1, by omega⟩
    obtain ⟨b, hb1, hb2⟩ := ih k (i + 1) (by omega) (by omega)
    simp only [spec_feCells.l0]
    have e2 : ((i : Int) + 1) = ((i + 1 : Nat) : Int) := by omega
    have h1 := hin i (by omega)
    have hrow := cell_row R C (l.getD i 0) h1.1 h1.2
    have hcol : (l.getD i 0).toNat % C < C := Nat.mod_lt _ (by omega)
    have l1 : ((ms.map (fun (x : Nat) => (x : Int))).length : Int) = (R : Int) := by simp [hR]
    rw [if_pos (by omega), if_pos (by omega), if_pos (by omega), rd_nat, if_neg (by omega), tdiv_nat _ _ h1.1, tmod_nat2 _ _ h1.1, wrap_small _ (Nat.lt_of_lt_of_le hrow (by omega)), wrap_ok (x := (i : Int) + 1) (by omega) (by omega), if_pos (Int.natCast_nonneg _), l1, if_pos (Int.ofNat_lt.2 hrow), rd_map, orHas_k _ _ (by omega), e2, hb1]
    simp only [Option.bind_some]
    have em : (ms.getD ((l.getD i 0).toNat / C) 0).testBit ((l.getD i 0).toNat % C) = mk ms ((l.getD i 0).toNat / C) ((l.getD i 0).toNat % C) := rfl
    rw [em]
    cases hm : mk ms ((l.getD i 0).toNat / C) ((l.getD i 0).toNat % C)
    · refine ⟨b, by rw [if_neg (by simp)], hb2.trans ?_⟩
      constructor
      · intro hh j h3 h4
        by_cases he : j = i
        · subst he
          exact hm
        · exact hh j (by omega) h4
      · intro hh j h3 h4
        exact hh j (by omega) h4
    · refine ⟨false, by rw [if_pos rfl], ?_⟩
      constructor
      · intro hh
        cases hh
      · intro hh
        have := hh i (by omega) (by omega)
        unfold unm at this
        rw [hm] at this
        cases this
theorem inRise_iff (N : Int) (C : Nat) (ms : List Nat) (l : List Int) : Cells N C ms l ↔ InRise l 0 (N - 1) 0 ∧ ∀ j, 0 ≤ j → j < l.length → unm C ms (l.getD j 0) := by
  constructor
  · rintro ⟨h1, h2⟩
    exact ⟨fun j _ h3 => ⟨(h1 j h3).1, fun h4 => h2 j h4 h3⟩, fun j _ h3 => (h1 j h3).2⟩
  · rintro ⟨h1, h2⟩
    exact ⟨fun j h3 => ⟨(h1 j (by omega) h3).1, h2 j (by omega) h3⟩, fun j h4 h3 => (h1 j (by omega) h3).2 h4⟩
theorem cells_k (R C : Nat) (ms : List Nat) (hT : isTab (R : Int) (C : Int) (ms.map (fun (x : Nat) => (x : Int))) = true) (hR : ms.length = R) (hR6 : R ≤ 6) (hC0 : 1 ≤ C) (hC : C ≤ 6) (hb : ∀ x ∈ ms, x < 64) (l : List Int) (hl : l.length ≤ 1048576) (k : Nat) (hk : 2 * l.length + 10 < k) :
    ∃ b, impl_Table_areCells.f k (R : Int) (C : Int) (ms.map (fun (x : Nat) => (x : Int))) l = some b ∧ spec_feCells.f k (R : Int) (C : Int) (ms.map (fun (x : Nat) => (x : Int))) l = some b ∧ (b = true ↔ Cells ((R * C : Nat) : Int) C ms l) := by
  have h6 : R * C ≤ 6 * 6 := Nat.mul_le_mul hR6 hC
  obtain ⟨b, hb1, hb2⟩ := areCells_l0 R C ms hR hR6 hC0 hC hb l hl l.length k 0 (by omega) (by omega)
  have hb3 : b = true ↔ Cells ((R * C : Nat) : Int) C ms l := by
    rw [hb2]
    exact ⟨fun hh => ⟨fun j h => hh.1 j (by omega) h, hh.2⟩, fun hh => ⟨fun j _ h => hh.1 j h, hh.2⟩⟩
  refine ⟨b, hb1, ?_, hb3⟩
  unfold spec_feCells.f
  have lm : (ms.map (fun (x : Nat) => (x : Int))).length ≤ 6 := by simp; omega
  rw [feGood_k _ _ _ (by omega) k (by omega), hT]
  simp only [Option.bind_some, if_true]
  rw [area_eq R C hR6 hC]
  obtain ⟨r, hr1, hr2⟩ := rising_k l 0 (((R * C : Nat) : Int) - 1) (by omega) k (by omega)
  rw [hr1]
  simp only [Option.bind_some]
  obtain ⟨k, rfl⟩ : ∃ m, k = m + 1 := ⟨k - 1, by omega⟩
  rw [inRise_iff, ← hr2] at hb3
  simp only [spec_feCells.j0]
  cases r
  · rw [if_pos (show (!false) = true from rfl)]
    cases b
    · rfl
    · have := (hb3.1 rfl).1
      cases this
  · rw [if_neg (by simp)]
    obtain ⟨c, hc1, hc2⟩ := feCells_l0 R C ms hR hR6 hC0 hC hb l hl (by omega) (fun j hj => ((hr2.1 rfl) j (by omega) hj).1) l.length k 0 (by omega) (by omega)
    rw [show spec_feCells.l0 k l (l.length : Int) 0 (R : Int) (C : Int) (ms.map (fun (x : Nat) => (x : Int))) = some c from hc1]
    rw [← hc2] at hb3
    cases b <;> cases c <;> simp at hb3 <;> rfl
/-- Good cells are numbers. -/
theorem cells_nat (R C : Nat) (ms : List Nat) (l : List Int) (h : Cells ((R * C : Nat) : Int) C ms l) : ∃ cs : List Nat, l = cs.map (fun (x : Nat) => (x : Int)) ∧ ∀ c ∈ cs, c < R * C := by
  refine ⟨l.map Int.toNat, ?_, ?_⟩
  · rw [List.map_map]
    apply List.ext_getElem
    · simp
    · intro j h1 h2
      have := (h.1 j h1).1
      rw [List.getD_eq_getElem?_getD, List.getElem?_eq_getElem h1] at this
      simp at this ⊢
      omega
  · intro c hc
    obtain ⟨y, hy, rfl⟩ := List.mem_map.1 hc
    obtain ⟨j, hj, rfl⟩ := List.getElem_of_mem hy
    have := (h.1 j hj).1
    rw [List.getD_eq_getElem?_getD, List.getElem?_eq_getElem hj] at this
    simp at this
    omega

/-- The rows of the cells before i whose column is marked in a row. -/
def befTo (C : Nat) (ms cs : List Nat) (r : Nat) : Nat → Nat
  | 0 => 0
  | i + 1 => if mk ms r (cs.getD i 0 % C) = true then befTo C ms cs r i ||| 2 ^ (cs.getD i 0 / C) else befTo C ms cs r i
theorem cs_row (R C : Nat) (cs : List Nat) (hcs : ∀ c ∈ cs, c < R * C) (i : Nat) (hi : i < cs.length) : cs.getD i 0 / C < R := by
  apply Nat.div_lt_of_lt_mul
  rw [Nat.mul_comm, List.getD_eq_getElem?_getD, List.getElem?_eq_getElem hi]
  exact hcs _ (List.getElem_mem hi)
theorem befTo_lt (R C : Nat) (ms cs : List Nat) (hcs : ∀ c ∈ cs, c < R * C) (r : Nat) : ∀ i, i ≤ cs.length → befTo C ms cs r i < 2 ^ R := by
  intro i
  induction i with
  | zero => intro _; exact Nat.two_pow_pos _
  | succ i ih =>
    intro hi
    rw [befTo]
    split
    · exact Nat.or_lt_two_pow (ih (by omega)) (Nat.pow_lt_pow_right (by omega) (cs_row R C cs hcs i (by omega)))
    · exact ih (by omega)
theorem befTo_bit (C : Nat) (ms cs : List Nat) (r i s : Nat) : (befTo C ms cs r i).testBit s = true ↔ ∃ j, j < i ∧ cs.getD j 0 / C = s ∧ mk ms r (cs.getD j 0 % C) = true := by
  induction i with
  | zero => simp [befTo]
  | succ i ih =>
    rw [befTo]
    cases hm : mk ms r (cs.getD i 0 % C)
    · rw [if_neg (by simp), ih]
      constructor
      · rintro ⟨j, h1, h2⟩
        exact ⟨j, by omega, h2⟩
      · rintro ⟨j, h1, h2, h3⟩
        by_cases e : j = i
        · subst e
          rw [hm] at h3
          cases h3
        · exact ⟨j, by omega, h2, h3⟩
    · rw [if_pos rfl, Nat.testBit_or, Bool.or_eq_true, ih, Nat.testBit_two_pow, decide_eq_true_eq]
      constructor
      · rintro (⟨j, h1, h2⟩ | h)
        · exact ⟨j, by omega, h2⟩
        · exact ⟨i, by omega, h, hm⟩
      · rintro ⟨j, h1, h2, h3⟩
        by_cases e : j = i
        · subst e
          exact Or.inr h2
        · exact Or.inl ⟨j, by omega, h2, h3⟩
/-- The list that is being filled: the cells before i are done, the next one for the rows before r. -/
def befPart (R C : Nat) (ms cs : List Nat) (i r : Nat) : List Int := (List.range R).map fun q => if q < r then ((befTo C ms cs q (i + 1) : Nat) : Int) else ((befTo C ms cs q i : Nat) : Int)
theorem befPart_length (R C : Nat) (ms cs : List Nat) (i r : Nat) : (befPart R C ms cs i r).length = R := by simp [befPart]
theorem befPart_start (R C : Nat) (ms cs : List Nat) : List.replicate R 0 = befPart R C ms cs 0 0 := by
  apply List.ext_getElem?
  intro r
  by_cases h : r < R
  · simp [befPart, h, List.getElem?_replicate, befTo]
  · rw [List.getElem?_eq_none (by simp; omega), List.getElem?_eq_none (by rw [befPart_length]; omega)]
theorem befPart_next (R C : Nat) (ms cs : List Nat) (i : Nat) : befPart R C ms cs i R = befPart R C ms cs (i + 1) 0 := by
  unfold befPart
  apply List.map_congr_left
  intro q hq
  rw [if_pos (by simpa using hq), if_neg (by omega)]
theorem befPart_rd (R C : Nat) (ms cs : List Nat) (i r : Nat) (hr : r < R) : rd (befPart R C ms cs i r) (r : Int) = ((befTo C ms cs r i : Nat) : Int) := by
  rw [rd_nat]
  simp [befPart, List.getD_eq_getElem?_getD, hr]
theorem befPart_skip (R C : Nat) (ms cs : List Nat) (i r : Nat) (hm : mk ms r (cs.getD i 0 % C) = false) : befPart R C ms cs i r = befPart R C ms cs i (r + 1) := by
  unfold befPart
  apply List.map_congr_left
  intro q _
  by_cases h : q < r
  · rw [if_pos h, if_pos (by omega)]
  · rw [if_neg h]
    by_cases e : q = r
    · subst e
      rw [if_pos (by omega), befTo, hm, if_neg (by simp)]
    · rw [if_neg (by omega)]
theorem befPart_set (R C : Nat) (ms cs : List Nat) (i r : Nat) (hm : mk ms r (cs.getD i 0 % C) = true) : (befPart R C ms cs i r).set r ((befTo C ms cs r i ||| 2 ^ (cs.getD i 0 / C) : Nat) : Int) = befPart R C ms cs i (r + 1) := by
  apply List.ext_getElem?
  intro q
  by_cases h : q < R
  · rw [List.getElem?_set]
    simp only [befPart, List.getElem?_map, List.getElem?_range h, Option.map_some, List.length_map, List.length_range]
    by_cases e : r = q
    · subst e
      rw [if_pos rfl, if_pos h, if_pos (by omega), befTo, if_pos hm]
    · rw [if_neg e]
      by_cases h1 : q < r
      · rw [if_pos h1, if_pos (by omega)]
      · rw [if_neg h1, if_neg (by omega)]
  · rw [List.getElem?_eq_none (by simp [befPart_length]; omega), List.getElem?_eq_none (by rw [befPart_length]; omega)]
theorem freeOrder_l0 (R C : Nat) (ms cs : List Nat) (hR : ms.length = R) (hR6 : R ≤ 6) (hC0 : 1 ≤ C) (hC : C ≤ 6) (hb : ∀ x ∈ ms, x < 64) (hcs : ∀ c ∈ cs, c < R * C) (hl : cs.length ≤ 1048576) (W : List Int) (K : Nat)
    (hW : ∀ k, K ≤ k → impl_Table_freeOrder.l2 k (befPart R C ms cs cs.length 0) [] 0 (R : Int) (C : Int) (ms.map (fun (x : Nat) => (x : Int))) = some W) : ∀ (d k i : Nat), i + d = cs.length → K + d * (R + 2) < k →
    impl_Table_freeOrder.l0 k (befPart R C ms cs i 0) (cs.map (fun (x : Nat) => (x : Int))) (cs.length : Int) (i : Int) (R : Int) (C : Int) (ms.map (fun (x : Nat) => (x : Int))) = some W := by
  intro d
  induction d with
  | zero =>
    intro k i hi hk
    obtain ⟨k, rfl⟩ : ∃ m, k = m + 1 := ⟨k - 1, by omega⟩
    simp only [impl_Table_freeOrder.l0]
    have e : i = cs.length := by omega
    rw [if_neg (by omega), e]
    exact hW k (by omega)
  | succ d ih =>
    intro k i hi hk
    rw [Nat.succ_mul] at hk
    obtain ⟨k, rfl⟩ : ∃ m, k = m + 1 := ⟨k - 1, by omega⟩
    simp only [impl_Table_freeOrder.l0]
    have lc : ((cs.map (fun (x : Nat) => (x : Int))).length : Int) = (cs.length : Int) := by simp
    have hrow := cs_row R C cs hcs i (by omega)
    have hcol : cs.getD i 0 % C < C := Nat.mod_lt _ (by omega)
    rw [if_pos (by omega), if_pos (by omega), if_pos (by omega), rd_map]
    have inner : ∀ (e k r : Nat), r + e = R → K + d * (R + 2) + 1 + e < k → impl_Table_freeOrder.l1 k (befPart R C ms cs i r) ((cs.getD i 0 : Nat) : Int) (cs.map (fun (x : Nat) => (x : Int))) (cs.length : Int) (i : Int) (R : Int) (r : Int) (R : Int) (C : Int) (ms.map (fun (x : Nat) => (x : Int))) = some W := by
      intro e
      induction e with
      | zero =>
        intro k r hr hk
        obtain ⟨k, rfl⟩ : ∃ m, k = m + 1 := ⟨k - 1, by omega⟩
        simp only [impl_Table_freeOrder.l1]
        have e2 : r = R := by omega
        subst e2
        rw [if_neg (by omega), wrap_ok (by omega) (by omega), show ((i : Int) + 1) = ((i + 1 : Nat) : Int) by omega, befPart_next]
        exact ih k (i + 1) (by omega) (by omega)
      | succ e ihe =>
        intro k r hr hk
        obtain ⟨k, rfl⟩ : ∃ m, k = m + 1 := ⟨k - 1, by omega⟩
        simp only [impl_Table_freeOrder.l1]
        have next := ihe k (r + 1) (by omega) (by omega)
        have t1 : Int.tmod ((cs.getD i 0 : Nat) : Int) (C : Int) = ((cs.getD i 0 % C : Nat) : Int) := rfl
        have t2 : Int.tdiv ((cs.getD i 0 : Nat) : Int) (C : Int) = ((cs.getD i 0 / C : Nat) : Int) := rfl
        have b1 := befTo_lt R C ms cs hcs r i (by omega)
        have b2 : 2 ^ R ≤ 2 ^ 6 := Nat.pow_le_pow_right (by omega) hR6
        have e3 : (r : Int).toNat = r := by omega
        rw [if_pos (by omega), if_neg (by omega), t1, marked_k (R : Int) (C : Int) ms r _ hb (by omega) (by omega), t2, wrap_small _ (Nat.lt_of_lt_of_le hrow (by omega)), wrap_ok (x := (r : Int) + 1) (by omega) (by omega), show ((r : Int) + 1) = ((r + 1 : Nat) : Int) by omega, e3]
        simp only [Option.bind_some]
        cases hm : mk ms r (cs.getD i 0 % C)
        · rw [if_neg (by simp), befPart_skip R C ms cs i r hm]
          exact next
        · rw [if_pos rfl, if_pos (by omega), befPart_length, if_pos (by omega), if_pos (Int.natCast_nonneg _), befPart_rd R C ms cs i r (by omega), or_shl _ _ (by omega) (Nat.lt_of_lt_of_le hrow (by omega)), befPart_set R C ms cs i r hm]
          exact next
    exact inner R k 0 (by omega) (by omega)
/-- May a row come next, behind those that have come? -/
def ready (C : Nat) (ms cs out : List Nat) (r : Nat) : Bool := !out.contains r && (List.range' 0 cs.length).all fun j => !mk ms r (cs.getD j 0 % C) || out.contains (cs.getD j 0 / C)
/-- The first row that may come next. -/
def pick (R C : Nat) (ms cs out : List Nat) : Option Nat := (List.range' 0 R).find? (ready C ms cs out)
/-- The rows one after the other. -/
def orderFrom (R C : Nat) (ms cs : List Nat) : Nat → List Nat → Option (List Nat)
  | 0, out => some out
  | d + 1, out => (pick R C ms cs out).bind fun r => orderFrom R C ms cs d (out ++ [r])
theorem orderFrom_length (R C : Nat) (ms cs : List Nat) : ∀ d out l, orderFrom R C ms cs d out = some l → l.length = out.length + d := by
  intro d
  induction d with
  | zero =>
    intro out l h
    simp only [orderFrom, Option.some.injEq] at h
    rw [← h]
    rfl
  | succ d ih =>
    intro out l h
    simp only [orderFrom] at h
    cases hp : pick R C ms cs out with
    | none => simp [hp] at h
    | some r =>
      rw [hp] at h
      have := ih _ l h
      rw [this]
      simp
      omega
theorem pick_lt {R C : Nat} {ms cs out : List Nat} {r : Nat} (h : pick R C ms cs out = some r) : r < R := by
  have := List.mem_of_find?_eq_some h
  rw [List.mem_range'] at this
  obtain ⟨i, hi, e⟩ := this
  omega
theorem orderFrom_lt (R C : Nat) (ms cs : List Nat) : ∀ d out l, (∀ s ∈ out, s < R) → orderFrom R C ms cs d out = some l → ∀ s ∈ l, s < R := by
  intro d
  induction d with
  | zero =>
    intro out l ho h
    simp only [orderFrom, Option.some.injEq] at h
    rw [← h]
    exact ho
  | succ d ih =>
    intro out l ho h
    simp only [orderFrom] at h
    cases hp : pick R C ms cs out with
    | none => simp [hp] at h
    | some r =>
      rw [hp] at h
      refine ih _ l ?_ h
      intro s hs
      rcases List.mem_append.1 hs with h1 | h1
      · exact ho s h1
      · have : s = r := by simpa using h1
        rw [this]
        exact pick_lt hp
theorem ready_iff (C : Nat) (ms cs out : List Nat) (r set : Nat) (hset : ∀ s, set.testBit s = out.contains s) : ready C ms cs out r = true ↔ set.testBit r = false ∧ andn (befTo C ms cs r cs.length) set = 0 := by
  unfold ready
  rw [Bool.and_eq_true, List.all_eq_true, andn_zero, hset r]
  constructor
  · rintro ⟨h1, h2⟩
    refine ⟨by simpa using h1, fun s hs => ?_⟩
    obtain ⟨j, hj, e1, e2⟩ := (befTo_bit C ms cs r cs.length s).1 hs
    have := h2 j (by rw [List.mem_range']; exact ⟨j, hj, by omega⟩)
    rw [e2, e1] at this
    rw [hset]
    simpa using this
  · rintro ⟨h1, h2⟩
    refine ⟨by rw [h1]; rfl, fun j hj => ?_⟩
    rw [List.mem_range'] at hj
    obtain ⟨i, hi, e⟩ := hj
    have ei : j = i := by omega
    subst ei
    cases hm : mk ms r (cs.getD j 0 % C)
    · simp
    · have := h2 (cs.getD j 0 / C) ((befTo_bit C ms cs r cs.length _).2 ⟨j, hi, rfl, hm⟩)
      rw [hset] at this
      rw [this, Bool.or_true]
theorem set_lt {R set : Nat} {out : List Nat} (hset : ∀ s, set.testBit s = out.contains s) (ho : ∀ s ∈ out, s < R) : set < 2 ^ R := by
  apply Nat.lt_pow_two_of_testBit
  intro i hi
  rw [hset]
  cases h : out.contains i
  · rfl
  · have := ho i (by simpa using h)
    omega
theorem set_add {set r : Nat} {out : List Nat} (hset : ∀ s, set.testBit s = out.contains s) : ∀ s, (set ||| 2 ^ r).testBit s = (out ++ [r]).contains s := by
  intro s
  rw [Nat.testBit_or, hset, Nat.testBit_two_pow]
  by_cases h : r = s
  · subst h
    simp
  · have : ¬ s = r := fun e => h e.symm
    simp [h, this]
theorem freeOrder_l3 (R C : Nat) (ms cs : List Nat) (hR6 : R ≤ 6) (hcs : ∀ c ∈ cs, c < R * C) (M : List Int) (out : List Nat) (set : Nat) (hset : ∀ s, set.testBit s = out.contains s) (ho : ∀ s ∈ out, s < R) (hol : out.length ≤ 6) (K : Nat) (W : List Int) : ∀ (d k r : Nat), r + d = R → K + d < k →
    ((List.range' r d).find? (ready C ms cs out) = none → W = []) →
    (∀ q, (List.range' r d).find? (ready C ms cs out) = some q → ∀ k', K ≤ k' → impl_Table_freeOrder.l2 k' (befPart R C ms cs cs.length 0) ((out ++ [q]).map (fun (x : Nat) => (x : Int))) ((set ||| 2 ^ q : Nat) : Int) (R : Int) (C : Int) M = some W) →
    impl_Table_freeOrder.l3 k (befPart R C ms cs cs.length 0) (out.map (fun (x : Nat) => (x : Int))) (set : Int) (r : Int) (R : Int) (C : Int) M = some W := by
  intro d
  have hs := set_lt hset ho
  have b2 : 2 ^ R ≤ 2 ^ 6 := Nat.pow_le_pow_right (by omega) hR6
  induction d with
  | zero =>
    intro k r hr hk h0 _
    obtain ⟨k, rfl⟩ : ∃ m, k = m + 1 := ⟨k - 1, by omega⟩
    simp only [impl_Table_freeOrder.l3]
    rw [if_neg (by omega), if_pos (by omega), h0 (by simp)]
  | succ d ih =>
    intro k r hr hk h0 hc
    obtain ⟨k, rfl⟩ : ∃ m, k = m + 1 := ⟨k - 1, by omega⟩
    simp only [impl_Table_freeOrder.l3]
    rw [List.range'_succ, List.find?_cons] at h0
    have b1 := befTo_lt R C ms cs hcs r cs.length (by omega)
    have hrd : rd (befPart R C ms cs cs.length 0) (r : Int) = ((befTo C ms cs r cs.length : Nat) : Int) := by
      rw [rd_nat]
      simp [befPart, List.getD_eq_getElem?_getD, show r < R by omega]
    have hbit : (Go.bits .and .i64 (shr .i64 (set : Int) (r : Int)) 1 = 1) ↔ set.testBit r = true := by
      rw [← bit_and set r (by omega) (by omega), beq_iff_eq]
    have he : ((r : Int) + 1) = ((r + 1 : Nat) : Int) := by omega
    have rest : ready C ms cs out r = false → impl_Table_freeOrder.l3 k (befPart R C ms cs cs.length 0) (out.map (fun (x : Nat) => (x : Int))) (set : Int) ((r + 1 : Nat) : Int) (R : Int) (C : Int) M = some W := by
      intro hf
      rw [hf] at h0
      refine ih k (r + 1) (by omega) (by omega) h0 fun q hq => hc q ?_
      rw [List.range'_succ, List.find?_cons, hf]
      exact hq
    rw [if_pos (by omega), if_pos (by omega)]
    by_cases hb : set.testBit r = true
    · rw [if_pos (hbit.2 hb), wrap_ok (by omega) (by omega), he]
      apply rest
      cases hy : ready C ms cs out r
      · rfl
      · have := ((ready_iff C ms cs out r set hset).1 hy).1
        rw [hb] at this
        cases this
    · rw [if_neg (fun h => hb (hbit.1 h)), befPart_length, if_pos (by omega), hrd, andNot_nat _ _ (by omega) (by omega), wrap_ok (by omega) (by omega), he]
      by_cases ha : andn (befTo C ms cs r cs.length) set = 0
      · have hy : ready C ms cs out r = true := (ready_iff C ms cs out r set hset).2 ⟨by simpa using hb, ha⟩
        rw [if_pos (by omega), if_neg (by omega), if_pos (by simp; omega), or_shl set r (by omega) (by omega)]
        have := hc r (by rw [List.range'_succ, List.find?_cons, hy]) k (by omega)
        simpa using this
      · rw [if_neg (by omega)]
        apply rest
        cases hy : ready C ms cs out r
        · rfl
        · exact absurd ((ready_iff C ms cs out r set hset).1 hy).2 ha
theorem freeOrder_l2 (R C : Nat) (ms cs : List Nat) (hR0 : 1 ≤ R) (hR6 : R ≤ 6) (hcs : ∀ c ∈ cs, c < R * C) (M : List Int) : ∀ (d k : Nat) (out : List Nat) (set : Nat), out.length + d = R → (∀ s, set.testBit s = out.contains s) → (∀ s ∈ out, s < R) → d * (R + 3) < k →
    impl_Table_freeOrder.l2 k (befPart R C ms cs cs.length 0) (out.map (fun (x : Nat) => (x : Int))) (set : Int) (R : Int) (C : Int) M = some (((orderFrom R C ms cs d out).getD []).map (fun (x : Nat) => (x : Int))) := by
  intro d
  induction d with
  | zero =>
    intro k out set hd hset ho hk
    obtain ⟨k, rfl⟩ : ∃ m, k = m + 1 := ⟨k - 1, by omega⟩
    simp only [impl_Table_freeOrder.l2, orderFrom]
    have hne : ¬ (out.map (fun (x : Nat) => (x : Int))) = [] := by
      intro h
      have := congrArg List.length h
      simp at this
      rw [this] at hd
      simp at hd
      omega
    rw [if_neg (by simp; omega), if_neg hne]
    rfl
  | succ d ih =>
    intro k out set hd hset ho hk
    rw [Nat.succ_mul] at hk
    obtain ⟨k, rfl⟩ : ∃ m, k = m + 1 := ⟨k - 1, by omega⟩
    simp only [impl_Table_freeOrder.l2]
    rw [if_pos (by simp; omega)]
    refine freeOrder_l3 R C ms cs hR6 hcs M out set hset ho (by omega) (d * (R + 3) + 1) _ R k 0 (by omega) (by omega) ?_ ?_
    · intro h
      have hp : pick R C ms cs out = none := h
      simp only [orderFrom, hp]
      rfl
    · intro q hq k' hk'
      have hp : pick R C ms cs out = some q := hq
      simp only [orderFrom, hp, Option.bind_some]
      refine ih k' (out ++ [q]) _ (by simp; omega) (set_add hset) ?_ (by omega)
      intro s hs
      rcases List.mem_append.1 hs with h1 | h1
      · exact ho s h1
      · have : s = q := by simpa using h1
        rw [this]
        exact pick_lt hp
theorem freeOrder_k (R C : Nat) (ms cs : List Nat) (hR : ms.length = R) (hR0 : 1 ≤ R) (hR6 : R ≤ 6) (hC0 : 1 ≤ C) (hC : C ≤ 6) (hb : ∀ x ∈ ms, x < 64) (hcs : ∀ c ∈ cs, c < R * C) (hl : cs.length ≤ 1048576) (k : Nat) (hk : 8 * cs.length + 60 < k) :
    impl_Table_freeOrder.f k (R : Int) (C : Int) (ms.map (fun (x : Nat) => (x : Int))) (cs.map (fun (x : Nat) => (x : Int))) = some (((orderFrom R C ms cs R []).getD []).map (fun (x : Nat) => (x : Int))) := by
  unfold impl_Table_freeOrder.f
  have e : ((R : Int)).toNat = R := by omega
  have lc : ((cs.map (fun (x : Nat) => (x : Int))).length : Int) = (cs.length : Int) := by simp
  have h1 : cs.length * (R + 2) ≤ cs.length * 8 := Nat.mul_le_mul_left _ (by omega)
  have h2 : R * (R + 3) ≤ 6 * 9 := Nat.mul_le_mul hR6 (by omega)
  rw [if_pos (by omega), if_pos (by omega), e, befPart_start R C ms cs, lc]
  refine freeOrder_l0 R C ms cs hR hR6 hC0 hC hb hcs hl _ 55 (fun k hk => ?_) cs.length k 0 (by omega) (by omega)
  exact freeOrder_l2 R C ms cs hR0 hR6 hcs _ R k [] 0 (by simp) (by simp) (by simp) (by omega)
/-! The reference's. -/
theorem l1Has_l0 (l : List Nat) (s : Nat) (hl : l.length ≤ 1048576) : ∀ (d k i : Nat), i + d = l.length → d < k → spec_l1Has.l0 k (s : Int) (l.map (fun (x : Nat) => (x : Int))) (l.length : Int) (i : Int) = some ((l.drop i).contains s) := by
  intro d
  induction d with
  | zero =>
    intro k i hi hk
    obtain ⟨k, rfl⟩ : ∃ m, k = m + 1 := ⟨k - 1, by omega⟩
    simp only [spec_l1Has.l0]
    rw [if_neg (by omega), List.drop_eq_nil_of_le (by omega)]
    rfl
  | succ d ih =>
    intro k i hi hk
    obtain ⟨k, rfl⟩ : ∃ m, k = m + 1 := ⟨k - 1, by omega⟩
    simp only [spec_l1Has.l0]
    have lc : ((l.map (fun (x : Nat) => (x : Int))).length : Int) = (l.length : Int) := by simp
    have ed : l.drop i = l.getD i 0 :: l.drop (i + 1) := by
      rw [List.drop_eq_getElem_cons (by omega)]
      simp [show i < l.length by omega]
    rw [if_pos (by omega), if_pos (by omega), if_pos (by omega), rd_map, wrap_ok (by omega) (by omega), show ((i : Int) + 1) = ((i + 1 : Nat) : Int) by omega, ih k (i + 1) (by omega) (by omega), ed, List.contains_cons]
    by_cases h : l.getD i 0 = s
    · rw [if_pos (by omega), h]
      simp
    · rw [if_neg (by omega)]
      have h2 : (s == l.getD i 0) = false := by
        rw [beq_eq_false_iff_ne]
        exact fun e => h e.symm
      rw [h2, Bool.false_or]
theorem l1Has_k (l : List Nat) (s : Nat) (hl : l.length ≤ 1048576) (k : Nat) (hk : l.length < k) : spec_l1Has.f k (l.map (fun (x : Nat) => (x : Int))) (s : Int) = some (l.contains s) := by
  unfold spec_l1Has.f
  have := l1Has_l0 l s hl l.length k 0 (by omega) hk
  have lc : ((l.map (fun (x : Nat) => (x : Int))).length : Int) = (l.length : Int) := by simp
  rw [lc]
  exact this
/-- Does a cell let a row come next? -/
def lets (C : Nat) (ms cs out : List Nat) (r j : Nat) : Bool := !mk ms r (cs.getD j 0 % C) || out.contains (cs.getD j 0 / C)
/-- The row that is next, as the program's number. -/
def enc : Option Nat → Int
  | none => -1
  | some r => (r : Int)
theorem feOrder_l2 (R C : Nat) (ms cs : List Nat) (hR : ms.length = R) (hR6 : R ≤ 6) (hC0 : 1 ≤ C) (hC : C ≤ 6) (hb : ∀ x ∈ ms, x < 64) (hcs : ∀ c ∈ cs, c < R * C) (hl : cs.length ≤ 1048576) (out : List Nat) (hol : out.length ≤ 6) (K : Nat) (W : List Int × Bool) (nx : Int) (r : Nat) (hr : r < R) : ∀ (d k j : Nat) (g : Bool), j + d = cs.length → K + d + 7 < k →
    (∀ k', K ≤ k' → spec_feOrder.l1 k' (cs.map (fun (x : Nat) => (x : Int))) (out.map (fun (x : Nat) => (x : Int))) (if (g && (List.range' j d).all (lets C ms cs out r)) = true then (r : Int) else nx) ((r : Int) - 1) (R : Int) (C : Int) (ms.map (fun (x : Nat) => (x : Int))) = some W) →
    spec_feOrder.l2 k (cs.map (fun (x : Nat) => (x : Int))) (out.map (fun (x : Nat) => (x : Int))) nx (r : Int) g (cs.map (fun (x : Nat) => (x : Int))) (cs.length : Int) (j : Int) (R : Int) (C : Int) (ms.map (fun (x : Nat) => (x : Int))) = some W := by
  intro d
  induction d with
  | zero =>
    intro k j g hj hk hW
    obtain ⟨k, rfl⟩ : ∃ m, k = m + 1 := ⟨k - 1, by omega⟩
    simp only [spec_feOrder.l2]
    have := hW k (by omega)
    simp only [List.range'_zero, List.all_nil, Bool.and_true] at this
    rw [if_neg (by omega), wrap_ok (by omega) (by omega)]
    cases g
    · rw [if_neg (by simp)]
      simpa using this
    · rw [if_pos rfl]
      simpa using this
  | succ d ih =>
    intro k j g hj hk hW
    obtain ⟨k, rfl⟩ : ∃ m, k = m + 1 := ⟨k - 1, by omega⟩
    simp only [spec_feOrder.l2]
    rw [List.range'_succ, List.all_cons, ← Bool.and_assoc] at hW
    have next := ih k (j + 1) (g && lets C ms cs out r j) (by omega) (by omega) hW
    have lc : ((cs.map (fun (x : Nat) => (x : Int))).length : Int) = (cs.length : Int) := by simp
    have lm : ((ms.map (fun (x : Nat) => (x : Int))).length : Int) = (R : Int) := by simp [hR]
    have hrow := cs_row R C cs hcs j (by omega)
    have hcol : cs.getD j 0 % C < C := Nat.mod_lt _ (by omega)
    have t1 : Int.tmod ((cs.getD j 0 : Nat) : Int) (C : Int) = ((cs.getD j 0 % C : Nat) : Int) := rfl
    have t2 : Int.tdiv ((cs.getD j 0 : Nat) : Int) (C : Int) = ((cs.getD j 0 / C : Nat) : Int) := rfl
    have em : (ms.getD r 0).testBit (cs.getD j 0 % C) = mk ms r (cs.getD j 0 % C) := rfl
    rw [if_pos (by omega), if_pos (by omega), if_pos (by omega), rd_map, t1, t2, if_neg (by omega), wrap_small _ (Nat.lt_of_lt_of_le hrow (by omega)), l1Has_k out _ (by omega) k (by omega), wrap_ok (x := (j : Int) + 1) (by omega) (by omega), show ((j : Int) + 1) = ((j + 1 : Nat) : Int) by omega, if_pos (by omega), if_pos (by omega), rd_map, orHas_k _ _ (by omega), em]
    simp only [Option.bind_some]
    unfold lets at next
    cases h1 : out.contains (cs.getD j 0 / C)
    · rw [if_neg (by simp)]
      rw [h1, Bool.or_false] at next
      cases h2 : mk ms r (cs.getD j 0 % C)
      · rw [if_neg (by simp)]
        rw [h2] at next
        simpa using next
      · rw [if_pos rfl]
        rw [h2] at next
        simpa using next
    · rw [if_pos rfl]
      rw [h1, Bool.or_true, Bool.and_true] at next
      exact next
theorem ready_eq (C : Nat) (ms cs out : List Nat) (r : Nat) : ready C ms cs out r = (!out.contains r && (List.range' 0 cs.length).all (lets C ms cs out r)) := rfl
theorem feOrder_l1 (R C : Nat) (ms cs : List Nat) (hR : ms.length = R) (hR6 : R ≤ 6) (hC0 : 1 ≤ C) (hC : C ≤ 6) (hb : ∀ x ∈ ms, x < 64) (hcs : ∀ c ∈ cs, c < R * C) (hl : cs.length ≤ 1048576) (out : List Nat) (hol : out.length ≤ 6) (K : Nat) (W : List Int × Bool)
    (h0 : pick R C ms cs out = none → W = ([], false)) (h1 : ∀ q, pick R C ms cs out = some q → ∀ k', K ≤ k' → spec_feOrder.l0 k' (cs.map (fun (x : Nat) => (x : Int))) ((out ++ [q]).map (fun (x : Nat) => (x : Int))) (R : Int) (C : Int) (ms.map (fun (x : Nat) => (x : Int))) = some W) : ∀ (j k : Nat), j ≤ R → K + j * (cs.length + 12) + 1 < k →
    spec_feOrder.l1 k (cs.map (fun (x : Nat) => (x : Int))) (out.map (fun (x : Nat) => (x : Int))) (enc ((List.range' j (R - j)).find? (ready C ms cs out))) ((j : Int) - 1) (R : Int) (C : Int) (ms.map (fun (x : Nat) => (x : Int))) = some W := by
  intro j
  induction j with
  | zero =>
    intro k hj hk
    obtain ⟨k, rfl⟩ : ∃ m, k = m + 1 := ⟨k - 1, by omega⟩
    simp only [spec_feOrder.l1]
    have e : (List.range' 0 (R - 0)).find? (ready C ms cs out) = pick R C ms cs out := rfl
    rw [if_neg (by omega), e]
    cases hp : pick R C ms cs out with
    | none =>
      rw [if_pos (by simp [enc]), h0 hp]
    | some q =>
      have := h1 q hp k (by omega)
      rw [if_neg (by simp only [enc]; omega), if_pos (by simp; omega)]
      simpa [enc] using this
  | succ j ih =>
    intro k hj hk
    rw [Nat.succ_mul] at hk
    obtain ⟨k, rfl⟩ : ∃ m, k = m + 1 := ⟨k - 1, by omega⟩
    simp only [spec_feOrder.l1]
    have ej : (((j + 1 : Nat) : Int) - 1) = (j : Int) := by omega
    have er : R - j = (R - (j + 1)) + 1 := by omega
    have goal := fun (k : Nat) (hk : K + j * (cs.length + 12) + 1 < k) => ih k (by omega) hk
    rw [er, List.range'_succ, List.find?_cons] at goal
    rw [ej, if_pos (by omega), l1Has_k out _ (by omega) k (by omega), wrap_ok (by omega) (by omega)]
    simp only [Option.bind_some]
    cases hc : out.contains j
    · rw [if_neg (by simp)]
      have lc : ((cs.map (fun (x : Nat) => (x : Int))).length : Int) = (cs.length : Int) := by simp
      rw [lc]
      refine feOrder_l2 R C ms cs hR hR6 hC0 hC hb hcs hl out hol (K + j * (cs.length + 12) + 2) W _ j (by omega) cs.length k 0 true (by omega) (by omega) ?_
      intro k' hk'
      have g := goal k' (by omega)
      rw [ready_eq, hc] at g
      cases ha : (List.range' 0 cs.length).all (lets C ms cs out j)
      · rw [ha] at g
        simpa using g
      · rw [ha] at g
        simpa [enc] using g
    · rw [if_pos rfl]
      have g := goal k (by omega)
      rw [ready_eq, hc] at g
      simpa using g
theorem feOrder_l0 (R C : Nat) (ms cs : List Nat) (hR : ms.length = R) (hR6 : R ≤ 6) (hC0 : 1 ≤ C) (hC : C ≤ 6) (hb : ∀ x ∈ ms, x < 64) (hcs : ∀ c ∈ cs, c < R * C) (hl : cs.length ≤ 1048576) : ∀ (d k : Nat) (out : List Nat), out.length + d = R → d * (6 * (cs.length + 12) + 4) < k →
    spec_feOrder.l0 k (cs.map (fun (x : Nat) => (x : Int))) (out.map (fun (x : Nat) => (x : Int))) (R : Int) (C : Int) (ms.map (fun (x : Nat) => (x : Int))) = some (match orderFrom R C ms cs d out with | none => ([], false) | some l => (l.map (fun (x : Nat) => (x : Int)), true)) := by
  intro d
  induction d with
  | zero =>
    intro k out hd hk
    obtain ⟨k, rfl⟩ : ∃ m, k = m + 1 := ⟨k - 1, by omega⟩
    simp only [spec_feOrder.l0, orderFrom]
    rw [if_neg (by simp; omega)]
  | succ d ih =>
    intro k out hd hk
    rw [Nat.succ_mul] at hk
    obtain ⟨k, rfl⟩ : ∃ m, k = m + 1 := ⟨k - 1, by omega⟩
    simp only [spec_feOrder.l0]
    have hm : R * (cs.length + 12) ≤ 6 * (cs.length + 12) := Nat.mul_le_mul_right _ hR6
    rw [if_pos (by simp; omega), wrap_ok (by omega) (by omega)]
    have L := feOrder_l1 R C ms cs hR hR6 hC0 hC hb hcs hl out (by omega) (d * (6 * (cs.length + 12) + 4) + 1) (match orderFrom R C ms cs (d + 1) out with | none => ([], false) | some l => (l.map (fun (x : Nat) => (x : Int)), true))
      (fun hp => by simp [orderFrom, hp])
      (fun q hp k' hk' => by
        simp only [orderFrom, hp, Option.bind_some]
        exact ih k' (out ++ [q]) (by simp; omega) (by omega)) R k (by omega) (by omega)
    have e : R - R = 0 := by omega
    rw [e] at L
    exact L
theorem feOrder_k (R C : Nat) (ms cs : List Nat) (hR : ms.length = R) (hR6 : R ≤ 6) (hC0 : 1 ≤ C) (hC : C ≤ 6) (hb : ∀ x ∈ ms, x < 64) (hcs : ∀ c ∈ cs, c < R * C) (hl : cs.length ≤ 1048576) (k : Nat) (hk : 36 * cs.length + 600 < k) :
    spec_feOrder.f k (R : Int) (C : Int) (ms.map (fun (x : Nat) => (x : Int))) (cs.map (fun (x : Nat) => (x : Int))) = some (match orderFrom R C ms cs R [] with | none => ([], false) | some l => (l.map (fun (x : Nat) => (x : Int)), true)) := by
  unfold spec_feOrder.f
  have hm : R * (6 * (cs.length + 12) + 4) ≤ 6 * (6 * (cs.length + 12) + 4) := Nat.mul_le_mul_right _ hR6
  exact feOrder_l0 R C ms cs hR hR6 hC0 hC hb hcs hl R k [] (by simp) (by omega)

/-- The cells without a mark in the columns < j of the row i. -/
def emptyRow (C : Nat) (ms : List Nat) (i j : Nat) : List Int := ((List.range j).filter (fun c => !mk ms i c)).map (fun (c : Nat) => ((i * C + c : Nat) : Int))
/-- The cells without a mark in the rows < i. -/
def emptyTo (C : Nat) (ms : List Nat) (i : Nat) : List Int := (List.range i).flatMap (fun r => emptyRow C ms r C)
theorem emptyRow_succ (C : Nat) (ms : List Nat) (i j : Nat) : emptyRow C ms i (j + 1) = emptyRow C ms i j ++ (if mk ms i j = true then [] else [((i * C + j : Nat) : Int)]) := by
  unfold emptyRow
  rw [List.range_succ, List.filter_append, List.map_append]
  cases h : mk ms i j <;> simp [h]
theorem emptyRow_length (C : Nat) (ms : List Nat) (i j : Nat) : (emptyRow C ms i j).length ≤ j := by
  have := List.length_filter_le (fun c => !mk ms i c) (List.range j)
  simpa [emptyRow] using this
theorem emptyTo_succ (C : Nat) (ms : List Nat) (i : Nat) : emptyTo C ms (i + 1) = emptyTo C ms i ++ emptyRow C ms i C := by
  unfold emptyTo
  rw [List.range_succ, List.flatMap_append]
  simp
theorem emptyTo_length (C : Nat) (ms : List Nat) (i : Nat) : (emptyTo C ms i).length ≤ i * C := by
  induction i with
  | zero => simp [emptyTo]
  | succ i ih =>
    rw [emptyTo_succ, List.length_append, Nat.succ_mul]
    have := emptyRow_length C ms i C
    omega
theorem cell_wrap (i C j : Nat) (hi : i ≤ 6) (hC : C ≤ 6) (hj : j ≤ 6) : wrap64 ((wrap64 ((i : Int) * (C : Int))) + (j : Int)) = ((i * C + j : Nat) : Int) := by
  have h : i * C ≤ 6 * 6 := Nat.mul_le_mul hi hC
  have e : (i : Int) * (C : Int) = ((i * C : Nat) : Int) := by simp
  have e2 : wrap64 ((i * C : Nat) : Int) = ((i * C : Nat) : Int) := wrap_ok (by omega) (by omega)
  rw [e, e2, wrap_ok (by omega) (by omega)]
  simp
theorem feEmpty_l0 (R C : Nat) (ms : List Nat) (hR : ms.length = R) (hR6 : R ≤ 6) (hC : C ≤ 6) (hb : ∀ x ∈ ms, x < 64) : ∀ (d k i : Nat), i + d = R → d * (C + 3) < k → spec_feEmpty.l0 k (emptyTo C ms i) (ms.map (fun (x : Nat) => (x : Int))) (R : Int) (i : Int) (R : Int) (C : Int) (ms.map (fun (x : Nat) => (x : Int))) = some (emptyTo C ms R) := by
  intro d
  induction d with
  | zero =>
    intro k i hi hk
    obtain ⟨k, rfl⟩ : ∃ m, k = m + 1 := ⟨k - 1, by omega⟩
    simp only [spec_feEmpty.l0]
    have e : i = R := by omega
    rw [if_neg (by omega), e]
  | succ d ih =>
    intro k i hi hk
    rw [Nat.succ_mul] at hk
    obtain ⟨k, rfl⟩ : ∃ m, k = m + 1 := ⟨k - 1, by omega⟩
    simp only [spec_feEmpty.l0]
    rw [if_pos (by omega), if_pos (by omega), if_pos (by simp; omega), rd_map]
    have hx := getD_lt (b := 64) (by omega) hb i
    have inner : ∀ (e k j : Nat), j + e = C → d * (C + 3) + 1 + e < k → spec_feEmpty.l1 k (emptyTo C ms i ++ emptyRow C ms i j) (i : Int) ((ms.getD i 0 : Nat) : Int) (j : Int) (ms.map (fun (x : Nat) => (x : Int))) (R : Int) (i : Int) (R : Int) (C : Int) (ms.map (fun (x : Nat) => (x : Int))) = some (emptyTo C ms R) := by
      intro e
      induction e with
      | zero =>
        intro k j hj hk
        obtain ⟨k, rfl⟩ : ∃ m, k = m + 1 := ⟨k - 1, by omega⟩
        simp only [spec_feEmpty.l1]
        have e2 : j = C := by omega
        rw [if_neg (by omega), wrap_ok (by omega) (by omega), show ((i : Int) + 1) = ((i + 1 : Nat) : Int) by omega, e2, ← emptyTo_succ]
        exact ih k (i + 1) (by omega) (by omega)
      | succ e ihe =>
        intro k j hj hk
        obtain ⟨k, rfl⟩ : ∃ m, k = m + 1 := ⟨k - 1, by omega⟩
        simp only [spec_feEmpty.l1]
        have next := ihe k (j + 1) (by omega) (by omega)
        have l1 := emptyTo_length C ms i
        have l2 := emptyRow_length C ms i j
        have l3 : i * C ≤ 6 * 6 := Nat.mul_le_mul (by omega) hC
        rw [if_pos (by omega), orHas_k _ j (by omega), wrap_ok (show -9223372036854775808 ≤ (j : Int) + 1 by omega) (by omega), show ((j : Int) + 1) = ((j + 1 : Nat) : Int) by omega, cell_wrap i C j (by omega) hC (by omega)]
        simp only [Option.bind_some]
        rw [emptyRow_succ] at next
        have em : (ms.getD i 0).testBit j = mk ms i j := rfl
        rw [em]
        cases hm : mk ms i j
        · rw [if_neg (by simp), if_pos (by simp; omega)]
          simpa [hm] using next
        · rw [if_pos rfl]
          simpa [hm] using next
    have := inner C k 0 (by omega) (by omega)
    simpa [emptyRow] using this
theorem feEmpty_k (R C : Nat) (ms : List Nat) (hR : ms.length = R) (hR6 : R ≤ 6) (hC : C ≤ 6) (hb : ∀ x ∈ ms, x < 64) (k : Nat) (hk : 100 ≤ k) : spec_feEmpty.f k (R : Int) (C : Int) (ms.map (fun (x : Nat) => (x : Int))) = some (emptyTo C ms R) := by
  unfold spec_feEmpty.f
  have h : R * (C + 3) ≤ 6 * 9 := Nat.mul_le_mul hR6 (by omega)
  have e : (((ms.map (fun (x : Nat) => (x : Int))).length : Nat) : Int) = (R : Int) := by simp; omega
  rw [e]
  exact feEmpty_l0 R C ms hR hR6 hC hb R k 0 (by omega) (by omega)

/-! A loop that looks for the first index for which something is told: what it tells with enough rounds. -/
/-- One round of such a loop: what is told ends it; else it goes on. -/
def Step {α : Type} (F : Nat → Nat → Option α) (G : Nat → Option α) (c i : Nat) : Prop :=
  (∀ v, G i = some v → ∀ k, c ≤ k → F (k + 1) i = some v) ∧ (G i = none → ∀ K r, (∀ k, K ≤ k → F k (i + 1) = some r) → ∀ k, K + c ≤ k → F (k + 1) i = some r)
theorem search {α : Type} (F : Nat → Nat → Option α) (n c : Nat) (G : Nat → Option α) (h : ∀ i, i < n → Step F G c i) :
    ∀ e i, i + e = n → (∀ v, (List.range' i e).findSome? G = some v → ∀ k, e * (c + 1) ≤ k → F k i = some v) ∧
      ((List.range' i e).findSome? G = none → ∀ K r, (∀ k, K ≤ k → F k n = some r) → ∀ k, K + e * (c + 1) ≤ k → F k i = some r) := by
  intro e
  induction e with
  | zero =>
    intro i hi
    have e0 : i = n := by omega
    subst e0
    exact ⟨fun v h => by simp at h, fun _ K r h k hk => h k (by omega)⟩
  | succ e ih =>
    intro i hi
    obtain ⟨ihA, ihB⟩ := ih (i + 1) (by omega)
    obtain ⟨hb, hs⟩ := h i (by omega)
    rw [List.range'_succ, List.findSome?_cons]
    refine ⟨fun v h k hk => ?_, fun h K r hr k hk => ?_⟩
    · rw [Nat.succ_mul] at hk
      obtain ⟨k, rfl⟩ : ∃ m, k = m + 1 := ⟨k - 1, by omega⟩
      cases hG : G i with
      | some w =>
        rw [hG] at h
        exact hb v (by rw [hG]; exact h) k (by omega)
      | none =>
        rw [hG] at h
        exact hs hG (e * (c + 1)) v (fun k hk => ihA v h k hk) k (by omega)
    · rw [Nat.succ_mul] at hk
      obtain ⟨k, rfl⟩ : ∃ m, k = m + 1 := ⟨k - 1, by omega⟩
      cases hG : G i with
      | some w =>
        rw [hG] at h
        cases h
      | none =>
        rw [hG] at h
        exact hs hG (K + e * (c + 1)) r (fun k hk => ihB h K r hr k hk) k (by omega)
/-- A loop within a loop: the outer one's round is the inner one from its start; at its end it goes on. -/
theorem search2 {α : Type} {F I : Nat → Nat → Option α} {m c : Nat} {G : Nat → Option α} {GO : Nat → Option α} {i : Nat} (b : Nat)
    (h : ∀ j, j < m → Step I G c j) (hG : GO i = (List.range' 0 m).findSome? G) (hin : ∀ k, b ≤ k → F (k + 1) i = I k 0) (hout : ∀ k, I (k + 1) m = F k (i + 1)) : Step F GO (b + m * (c + 1) + 1) i := by
  obtain ⟨hA, hB⟩ := search I m c G h m 0 (by omega)
  unfold Step
  rw [hG]
  refine ⟨fun v h k hk => ?_, fun h K r hr k hk => ?_⟩
  · rw [hin k (by omega)]
    exact hA v h k (by omega)
  · rw [hin k (by omega)]
    refine hB h (K + 1) r (fun k hk => ?_) k (by omega)
    obtain ⟨k, rfl⟩ : ∃ q, k = q + 1 := ⟨k - 1, by omega⟩
    rw [hout]
    exact hr k (by omega)
/-- A whole search: the first that is told, or what stands at the end. -/
theorem search0 {α : Type} {F : Nat → Nat → Option α} {n c : Nat} {G : Nat → Option α} (h : ∀ i, i < n → Step F G c i) (z : α) (hz : ∀ k, F (k + 1) n = some z) (k : Nat) (hk : n * (c + 1) + 1 ≤ k) :
    F k 0 = some (((List.range' 0 n).findSome? G).getD z) := by
  obtain ⟨hA, hB⟩ := search F n c G h n 0 (by omega)
  cases h0 : (List.range' 0 n).findSome? G with
  | some v => exact hA v h0 k (by omega)
  | none =>
    refine hB h0 1 z (fun k hk => ?_) k (by omega)
    obtain ⟨k, rfl⟩ : ∃ q, k = q + 1 := ⟨k - 1, by omega⟩
    exact hz k
theorem nat_succ (i : Nat) : ((i : Int) + 1) = ((i + 1 : Nat) : Int) := by omega
theorem fs_none {α : Type} (n : Nat) (G : Nat → Option α) : (List.range' 0 n).findSome? G = none ↔ ∀ i, i < n → G i = none := by
  rw [List.findSome?_eq_none_iff]
  constructor
  · intro h i hi
    exact h i (by rw [List.mem_range']; exact ⟨i, hi, by omega⟩)
  · intro h x hx
    rw [List.mem_range'] at hx
    obtain ⟨i, hi, e⟩ := hx
    exact h x (by omega)
theorem fs_some {α : Type} (n : Nat) (G : Nat → Option α) (v : α) (h : (List.range' 0 n).findSome? G = some v) : ∃ i, i < n ∧ G i = some v := by
  obtain ⟨x, hx, hv⟩ := List.exists_of_findSome?_eq_some h
  rw [List.mem_range'] at hx
  obtain ⟨i, hi, e⟩ := hx
  exact ⟨x, by omega, hv⟩

/-- Four cells that refuse a table. -/
def four (ms : List Nat) (r c s d : Nat) : Bool := mk ms r c && !mk ms r d && mk ms s d && !mk ms s c
def four4 (ms : List Nat) (r c s d : Nat) : Option (List Int) := if four ms r c s d = true then some [(r : Int), (c : Int), (s : Int), (d : Int)] else none
def four3 (C : Nat) (ms : List Nat) (r c s : Nat) : Option (List Int) := (List.range' 0 C).findSome? (four4 ms r c s)
def four2 (R C : Nat) (ms : List Nat) (r c : Nat) : Option (List Int) := (List.range' 0 R).findSome? (four3 C ms r c)
def four1 (R C : Nat) (ms : List Nat) (r : Nat) : Option (List Int) := (List.range' 0 C).findSome? (four2 R C ms r)
def four0 (R C : Nat) (ms : List Nat) : Option (List Int) := (List.range' 0 R).findSome? (four1 R C ms)
abbrev asInts (ms : List Nat) : List Int := ms.map (fun (x : Nat) => (x : Int))
theorem four_l3 (R C : Nat) (ms : List Nat) (hR : ms.length = R) (hC : C ≤ 6) (hb : ∀ x ∈ ms, x < 64) (r c s : Nat) (hr : r < R) (hc : c < C) (hs : s < R) (d : Nat) (hd : d < C) :
    Step (fun k d => impl_Table_fourCells.l3 k (r : Int) (c : Int) (s : Int) (R : Int) (r : Int) (C : Int) (c : Int) (R : Int) (s : Int) (C : Int) (d : Int) (R : Int) (C : Int) (asInts ms)) (four4 ms r c s) 0 d := by
  refine ⟨fun v hv k _ => ?_, fun hv K v hK k hk => ?_⟩
  all_goals
    have q1 := marked_k (R : Int) (C : Int) ms r c hb (by omega) (by omega)
    have q2 := marked_k (R : Int) (C : Int) ms r d hb (by omega) (by omega)
    have q3 := marked_k (R : Int) (C : Int) ms s d hb (by omega) (by omega)
    have q4 := marked_k (R : Int) (C : Int) ms s c hb (by omega) (by omega)
    simp only [impl_Table_fourCells.l3]
    rw [if_pos (by omega), q1, q2, q3, q4, wrap_ok (by omega) (by omega), nat_succ]
    unfold four4 four at hv
    simp only [Option.bind_some]
  · cases h1 : mk ms r c <;> cases h2 : mk ms r d <;> cases h3 : mk ms s d <;> cases h4 : mk ms s c <;> simp [h1, h2, h3, h4] at hv ⊢
    exact hv
  · have hn := hK k (by omega)
    cases h1 : mk ms r c <;> cases h2 : mk ms r d <;> cases h3 : mk ms s d <;> cases h4 : mk ms s c <;> simp [h1, h2, h3, h4] at hv ⊢ <;> exact hn
theorem four_l2 (R C : Nat) (ms : List Nat) (hR : ms.length = R) (hR6 : R ≤ 6) (hC : C ≤ 6) (hb : ∀ x ∈ ms, x < 64) (r c : Nat) (hr : r < R) (hc : c < C) (s : Nat) (hs : s < R) :
    Step (fun k s => impl_Table_fourCells.l2 k (r : Int) (c : Int) (R : Int) (r : Int) (C : Int) (c : Int) (R : Int) (s : Int) (R : Int) (C : Int) (asInts ms)) (four3 C ms r c) (0 + C * (0 + 1) + 1) s :=
  search2 0 (four_l3 R C ms hR hC hb r c s hr hc hs) rfl
    (fun k _ => by simp only [impl_Table_fourCells.l2]; rw [if_pos (by omega)]; rfl)
    (fun k => by simp only [impl_Table_fourCells.l3]; rw [if_neg (by omega), wrap_ok (by omega) (by omega), nat_succ])
theorem four_l1 (R C : Nat) (ms : List Nat) (hR : ms.length = R) (hR6 : R ≤ 6) (hC : C ≤ 6) (hb : ∀ x ∈ ms, x < 64) (r : Nat) (hr : r < R) (c : Nat) (hc : c < C) :
    Step (fun k c => impl_Table_fourCells.l1 k (r : Int) (R : Int) (r : Int) (C : Int) (c : Int) (R : Int) (C : Int) (asInts ms)) (four2 R C ms r) (0 + R * (0 + C * (0 + 1) + 1 + 1) + 1) c :=
  search2 0 (four_l2 R C ms hR hR6 hC hb r c hr hc) rfl
    (fun k _ => by simp only [impl_Table_fourCells.l1]; rw [if_pos (by omega)]; rfl)
    (fun k => by simp only [impl_Table_fourCells.l2]; rw [if_neg (by omega), wrap_ok (by omega) (by omega), nat_succ])
theorem four_l0 (R C : Nat) (ms : List Nat) (hR : ms.length = R) (hR6 : R ≤ 6) (hC : C ≤ 6) (hb : ∀ x ∈ ms, x < 64) (r : Nat) (hr : r < R) :
    Step (fun k r => impl_Table_fourCells.l0 k (R : Int) (r : Int) (R : Int) (C : Int) (asInts ms)) (four1 R C ms) (0 + C * (0 + R * (0 + C * (0 + 1) + 1 + 1) + 1 + 1) + 1) r :=
  search2 0 (four_l1 R C ms hR hR6 hC hb r hr) rfl
    (fun k _ => by simp only [impl_Table_fourCells.l0]; rw [if_pos (by omega)]; rfl)
    (fun k => by simp only [impl_Table_fourCells.l1]; rw [if_neg (by omega), wrap_ok (by omega) (by omega), nat_succ])
theorem four_bound (R C : Nat) (hR6 : R ≤ 6) (hC : C ≤ 6) : R * (0 + C * (0 + R * (0 + C * (0 + 1) + 1 + 1) + 1 + 1) + 1 + 1) + 1 ≤ 4000 := by
  have h1 : C * (0 + 1) ≤ 6 * (0 + 1) := Nat.mul_le_mul hC (Nat.le_refl _)
  have h2 : R * (0 + C * (0 + 1) + 1 + 1) ≤ 6 * (0 + 6 * (0 + 1) + 1 + 1) := Nat.mul_le_mul hR6 (by omega)
  have h3 : C * (0 + R * (0 + C * (0 + 1) + 1 + 1) + 1 + 1) ≤ 6 * (0 + 6 * (0 + 6 * (0 + 1) + 1 + 1) + 1 + 1) := Nat.mul_le_mul hC (by omega)
  have h4 : R * (0 + C * (0 + R * (0 + C * (0 + 1) + 1 + 1) + 1 + 1) + 1 + 1) ≤ 6 * (0 + 6 * (0 + 6 * (0 + 6 * (0 + 1) + 1 + 1) + 1 + 1) + 1 + 1) := Nat.mul_le_mul hR6 (by omega)
  omega
/-- The first four cells that refuse a table, or nothing. -/
theorem fourCells_k (R C : Nat) (ms : List Nat) (hR : ms.length = R) (hR6 : R ≤ 6) (hC : C ≤ 6) (hb : ∀ x ∈ ms, x < 64) (k : Nat) (hk : 4000 ≤ k) : impl_Table_fourCells.f k (R : Int) (C : Int) (asInts ms) = some ((four0 R C ms).getD []) := by
  unfold impl_Table_fourCells.f
  have hn := four_bound R C hR6 hC
  exact search0 (four_l0 R C ms hR hR6 hC hb) [] (fun k => by simp only [impl_Table_fourCells.l0]; rw [if_neg (by omega)]) k (by omega)
theorem four0_ne (R C : Nat) (ms : List Nat) (v : List Int) (h : four0 R C ms = some v) : v ≠ [] := by
  unfold four0 at h
  obtain ⟨i, _, h1⟩ := fs_some _ _ _ h
  unfold four1 at h1
  obtain ⟨j, _, h2⟩ := fs_some _ _ _ h1
  unfold four2 at h2
  obtain ⟨i, _, h3⟩ := fs_some _ _ _ h2
  unfold four3 at h3
  obtain ⟨i, _, h4⟩ := fs_some _ _ _ h3
  unfold four4 at h4
  split at h4
  · injection h4 with h4
    rw [← h4]
    simp
  · cases h4
theorem four_len (R C : Nat) (ms : List Nat) : ((four0 R C ms).getD []).length ≤ 4 := by
  cases h : four0 R C ms with
  | none => simp
  | some v =>
    unfold four0 at h
    obtain ⟨i, _, h1⟩ := fs_some _ _ _ h
    unfold four1 at h1
    obtain ⟨j, _, h2⟩ := fs_some _ _ _ h1
    unfold four2 at h2
    obtain ⟨i, _, h3⟩ := fs_some _ _ _ h2
    unfold four3 at h3
    obtain ⟨i, _, h4⟩ := fs_some _ _ _ h3
    unfold four4 at h4
    split at h4
    · injection h4 with h4
      rw [← h4]
      simp
    · cases h4

theorem and255 (x : Int) : 0 ≤ Go.bits .and .u64 x 255 ∧ Go.bits .and .u64 x 255 < 256 := by
  unfold Go.bits
  show 0 ≤ IntKind.u64.wrap (((BitVec.ofInt 64 x &&& BitVec.ofInt 64 255).toNat : Nat) : Int) ∧ IntKind.u64.wrap (((BitVec.ofInt 64 x &&& BitVec.ofInt 64 255).toNat : Nat) : Int) < 256
  have h : (BitVec.ofInt 64 x &&& BitVec.ofInt 64 255).toNat ≤ 255 := by
    rw [BitVec.toNat_and]
    exact Nat.and_le_right
  rw [IntKind.wrap_u64]
  omega
theorem rd_byte (s : List Int) (hb : ∀ x ∈ s, 0 ≤ x ∧ x < 256) (p : Int) (h0 : 0 ≤ p) (h1 : p < s.length) : 0 ≤ rd s p ∧ rd s p < 256 := by
  obtain ⟨n, rfl⟩ := Int.eq_ofNat_of_zero_le h0
  have hn : n < s.length := by omega
  have e : rd s ((n : Nat) : Int) = s[n] := by
    rw [rd_nat, List.getD_eq_getElem?_getD, List.getElem?_eq_getElem hn]
    rfl
  show 0 ≤ rd s ((n : Nat) : Int) ∧ rd s ((n : Nat) : Int) < 256
  rw [e]
  exact hb _ (List.getElem_mem hn)
theorem next_ok (s : List Int) (hs : s.length ≤ 1048576) (hb : ∀ x ∈ s, 0 ≤ x ∧ x < 256) (p h : Int) (h0 : 0 ≤ p) (h1 : p ≤ 1000000000) : ∃ v h', spec_l1Cur_next.f s p h = some (v, p + 1, h') ∧ 0 ≤ v ∧ v < 256 := by
  have w : wrap64 (p + 1) = p + 1 := wrap_ok (by omega) (by omega)
  unfold spec_l1Cur_next.f
  rw [w]
  by_cases hp : p < (s.length : Int)
  · have hv := rd_byte s hb p h0 hp
    rw [if_pos hp, if_pos h0, if_pos (by omega), wrap_ok (x := rd s p) (by omega) (by omega)]
    exact ⟨_, _, rfl, hv.1, hv.2⟩
  · rw [if_neg hp, if_neg (by omega)]
    refine ⟨_, _, rfl, ?_⟩
    have := and255 ((IntKind.u64.wrap ((IntKind.u64.wrap ((IntKind.u64.wrap (h * 6364136223846793005)) + 0)) + 1442695040888963407)) / 1099511627776)
    rw [wrap_ok (by omega) (by omega)]
    exact this
theorem pick_ok (s : List Int) (hs : s.length ≤ 1048576) (hb : ∀ x ∈ s, 0 ≤ x ∧ x < 256) (p h a : Int) (h0 : 0 ≤ p) (h1 : p ≤ 900000000) : ∃ v p' h', spec_l1Cur_pick.f s p h a = some (v, p', h') ∧ 0 ≤ v ∧ (1 < a → v < a) ∧ (a ≤ 1 → v = 0) ∧ p ≤ p' ∧ p' ≤ p + 2 := by
  unfold spec_l1Cur_pick.f
  by_cases ha : a ≤ 1
  · rw [if_pos ha]
    exact ⟨0, p, h, rfl, by omega, by omega, fun _ => rfl, by omega, by omega⟩
  · rw [if_neg ha]
    obtain ⟨v, h', e, hv0, hv1⟩ := next_ok s hs hb p h h0 (by omega)
    rw [e]
    simp only [Option.bind_some]
    by_cases h2 : a > 200
    · rw [if_pos h2]
      obtain ⟨v2, h3, e2, hw0, hw1⟩ := next_ok s hs hb (p + 1) h' (by omega) (by omega)
      rw [e2]
      simp only [Option.bind_some]
      rw [if_neg (by omega), wrap_ok (x := v * 256) (by omega) (by omega), wrap_ok (by omega) (by omega)]
      exact ⟨_, _, _, rfl, Int.tmod_nonneg _ (by omega), fun _ => Int.tmod_lt_of_pos _ (by omega), fun h => absurd h ha, by omega, by omega⟩
    · rw [if_neg h2, if_neg (by omega)]
      exact ⟨_, _, _, rfl, Int.tmod_nonneg _ (by omega), fun _ => Int.tmod_lt_of_pos _ (by omega), fun h => absurd h ha, by omega, by omega⟩
theorem one_ok (s : List Int) (hs : s.length ≤ 1048576) (hb : ∀ x ∈ s, 0 ≤ x ∧ x < 256) (p h a : Int) (h0 : 0 ≤ p) (h1 : p ≤ 900000000) : ∃ v p' h', spec_l1Cur_one.f s p h a = some (v, p', h') ∧ p ≤ p' ∧ p' ≤ p + 2 := by
  unfold spec_l1Cur_one.f
  obtain ⟨v, p', h', e, _, _, _, e3, e4⟩ := pick_ok s hs hb p h a h0 h1
  rw [e]
  exact ⟨_, _, _, rfl, e3, e4⟩
theorem among_ok (s : List Int) (hs : s.length ≤ 1048576) (hb : ∀ x ∈ s, 0 ≤ x ∧ x < 256) (p h : Int) (l : List Int) (hl : 1 ≤ l.length) (h0 : 0 ≤ p) (h1 : p ≤ 900000000) : ∃ v p' h', spec_l1Cur_among.f s p h l = some (v, p', h') ∧ p ≤ p' ∧ p' ≤ p + 2 := by
  unfold spec_l1Cur_among.f
  obtain ⟨v, p', h', e, e0, e1, e2, e3, e4⟩ := pick_ok s hs hb p h (l.length : Int) h0 h1
  rw [e]
  simp only [Option.bind_some]
  rw [if_pos e0, if_pos (by by_cases h : 1 < (l.length : Int); exact e1 h; have := e2 (by omega); omega)]
  exact ⟨_, _, _, rfl, e3, e4⟩

/-- Is a row's number at least a column's? -/
def scP (A B : List Int) (r c : Nat) : Bool := decide (rd B (c : Int) ≤ rd A (r : Int))
theorem scales_l0 (A B : List Int) (hA : A.length ≤ 6) (hB : B.length ≤ 6) : ∀ (d k i : Nat) (out : List Int), i + d = A.length → d * (B.length + 3) < k → out = (List.range i).map (fun r => ((bitsum (scP A B r) B.length : Nat) : Int)) →
    spec_TableOfScales.l0 k B A (A.length : Int) (i : Int) (A.length : Int) (B.length : Int) out = some ((A.length : Int), (B.length : Int), relList A.length B.length (scP A B), true) := by
  intro d
  induction d with
  | zero =>
    intro k i out hi hk ho
    obtain ⟨k, rfl⟩ : ∃ m, k = m + 1 := ⟨k - 1, by omega⟩
    simp only [spec_TableOfScales.l0]
    have e : i = A.length := by omega
    rw [if_neg (by omega), ho, e]
    rfl
  | succ d ih =>
    intro k i out hi hk ho
    rw [Nat.succ_mul] at hk
    obtain ⟨k, rfl⟩ : ∃ m, k = m + 1 := ⟨k - 1, by omega⟩
    simp only [spec_TableOfScales.l0]
    rw [if_pos (by omega), if_pos (by omega), if_pos (by omega)]
    have inner : ∀ (e k j : Nat), j + e = B.length → d * (B.length + 3) + 1 + e < k → spec_TableOfScales.l1 k B (rd A (i : Int)) ((bitsum (scP A B i) j : Nat) : Int) A (A.length : Int) (i : Int) B (B.length : Int) (j : Int) (A.length : Int) (B.length : Int) out = some ((A.length : Int), (B.length : Int), relList A.length B.length (scP A B), true) := by
      intro e
      induction e with
      | zero =>
        intro k j hj hk
        obtain ⟨k, rfl⟩ : ∃ m, k = m + 1 := ⟨k - 1, by omega⟩
        simp only [spec_TableOfScales.l1]
        have e1 : ((i : Int) + 1) = ((i + 1 : Nat) : Int) := by omega
        have e2 : j = B.length := by omega
        have ol : out.length = i := by rw [ho]; simp
        rw [if_neg (by omega), if_pos (by omega), wrap_ok (by omega) (by omega), e1]
        refine ih k (i + 1) _ (by omega) (by omega) ?_
        rw [ho, List.range_succ, List.map_append, e2]
        rfl
      | succ e ihe =>
        intro k j hj hk
        obtain ⟨k, rfl⟩ : ∃ m, k = m + 1 := ⟨k - 1, by omega⟩
        simp only [spec_TableOfScales.l1]
        have e1 : ((j : Int) + 1) = ((j + 1 : Nat) : Int) := by omega
        have next := ihe k (j + 1) (by omega) (by omega)
        rw [if_pos (by omega), if_pos (by omega), if_pos (by omega), wrap_ok (by omega) (by omega), e1]
        by_cases hp : rd B (j : Int) ≤ rd A (i : Int)
        · rw [if_pos hp, or_shl _ j (Nat.lt_of_lt_of_le (bitsum_lt (scP A B i) j) (Nat.pow_le_pow_right (by omega) (by omega))) (by omega)]
          have e2 : bitsum (scP A B i) (j + 1) = bitsum (scP A B i) j ||| 2 ^ j := by simp [bitsum, scP, hp]
          rw [← e2]
          exact next
        · rw [if_neg hp]
          have e2 : bitsum (scP A B i) (j + 1) = bitsum (scP A B i) j := by simp [bitsum, scP, hp]
          rw [← e2]
          exact next
    have := inner B.length k 0 (by omega) (by omega)
    simpa [bitsum] using this

/-- What a drawn table is known to be: of at most six rows. -/
def TabOut (p1 : Int) (x : Option (Int × Int × List Int × Int × Int)) : Prop := ∃ R C M p' h', x = some (R, C, M, p', h') ∧ M.length ≤ 6 ∧ p1 ≤ p' ∧ p' ≤ 1000
theorem table_j4 (s : List Int) (hs : s.length ≤ 1048576) (hb : ∀ x ∈ s, 0 ≤ x ∧ x < 256) (k : Nat) (hk : 0 < k) (x3 x4 p h a b : Int) (M : List Int) (h4 : 0 ≤ x4) (h0 : 0 ≤ p) (h1 : p ≤ 990) (hM0 : 1 ≤ M.length) (hM : M.length ≤ 6) : TabOut p (spec_l1Cur_table.j4 k x3 x4 s p h a b M) := by
  obtain ⟨k, rfl⟩ : ∃ m, k = m + 1 := ⟨k - 1, by omega⟩
  obtain ⟨v, p1, g1, e, e0, e1, e2, e3, e4⟩ := pick_ok s hs hb p h 24 h0 (by omega)
  rw [spec_l1Cur_table.j4, e]
  simp only [Option.bind_some]
  split
  · obtain ⟨v', p', h', z, z1, z2⟩ := among_ok s hs hb p1 g1 [(-1), 0, shl .i64 1 x4, wrap64 ((shl .i64 1 x4) - 1)] (by simp) (by omega) (by omega)
    first | rw [if_pos h4, z] | rw [z]
    simp only [Option.bind_some]
    rw [if_pos (by omega)]
    exact ⟨_, _, _, _, _, rfl, by rw [List.length_set]; exact hM, by omega, by omega⟩
  · split
    · obtain ⟨v', p', h', z, z1, z2⟩ := among_ok s hs hb p1 g1 [0, (-1), wrap64 (x3 + 1), 7] (by simp) (by omega) (by omega)
      rw [z]
      simp only [Option.bind_some]
      exact ⟨_, _, _, _, _, rfl, hM, by omega, by omega⟩
    · split
      · obtain ⟨v', p', h', z, z1, z2⟩ := among_ok s hs hb p1 g1 [0, (-1), wrap64 (x4 + 1), 7] (by simp) (by omega) (by omega)
        rw [z]
        simp only [Option.bind_some]
        exact ⟨_, _, _, _, _, rfl, hM, by omega, by omega⟩
      · split
        · obtain ⟨v', p', h', z, _, _, _, z1, z2⟩ := pick_ok s hs hb p1 g1 64 (by omega) (by omega)
          rw [z]
          simp only [Option.bind_some]
          exact ⟨_, _, _, _, _, rfl, by simp, by omega, by omega⟩
        · exact ⟨_, _, _, _, _, rfl, hM, by omega, by omega⟩
theorem table_l3 (s : List Int) (hs : s.length ≤ 1048576) (hb : ∀ x ∈ s, 0 ≤ x ∧ x < 256) (n m : Nat) (hn0 : 1 ≤ n) (hn : n ≤ 4) (hm0 : 1 ≤ m) (hm : m ≤ 4) (A : List Int) (hA : A.length = n) (hA2 : ∀ x ∈ A, 0 ≤ x ∧ x ≤ 99) : ∀ (d k i : Nat) (B : List Int) (p h : Int), B.length = i → (∀ x ∈ B, 0 ≤ x ∧ x ≤ 99) → i + d = m → 100 + d < k → 0 ≤ p → p + 2 * d ≤ 900 → TabOut p (spec_l1Cur_table.l3 k (n : Int) (m : Int) A B (i : Int) s p h) := by
  intro d
  induction d with
  | zero =>
    intro k i B p h hB hB2 hi hk h0 h1
    obtain ⟨k, rfl⟩ : ∃ m, k = m + 1 := ⟨k - 1, by omega⟩
    rw [spec_l1Cur_table.l3, if_neg (by omega)]
    have a1 : allIn A 0 99 = true := (allIn_iff A 0 99).2 hA2
    have a2 : allIn B 0 99 = true := (allIn_iff B 0 99).2 hB2
    have hAB : A.length * (B.length + 3) ≤ 6 * 9 := Nat.mul_le_mul (by omega) (by omega)
    have e : spec_TableOfScales.f k A B = some ((A.length : Int), (B.length : Int), relList A.length B.length (scP A B), true) := by
      unfold spec_TableOfScales.f
      have c1 : 1 ≤ (A.length : Int) ∧ (A.length : Int) ≤ 6 := ⟨by omega, by omega⟩
      have c2 : 1 ≤ (B.length : Int) ∧ (B.length : Int) ≤ 6 := ⟨by omega, by omega⟩
      rw [l1In_eq, decide_eq_true c1]
      simp only [Option.bind_some, if_true]
      rw [l1In_eq, decide_eq_true c2]
      simp only [Option.bind_some, if_true]
      rw [l1All_k A 0 99 (by omega) k (by omega), a1]
      simp only [Option.bind_some, if_true]
      rw [l1All_k B 0 99 (by omega) k (by omega), a2]
      simp only [Option.bind_some]
      obtain ⟨k, rfl⟩ : ∃ m, k = m + 1 := ⟨k - 1, by omega⟩
      simp only [spec_TableOfScales.j0, Bool.not_true, Bool.false_eq_true, if_false]
      exact scales_l0 A B (by omega) (by omega) A.length k 0 [] (by omega) (by omega) (by simp)
    rw [e]
    simp only [Option.bind_some]
    exact table_j4 s hs hb k (by omega) _ _ p h _ _ _ (by omega) h0 (by omega) (by rw [relList_length]; omega) (by rw [relList_length]; omega)
  | succ d ih =>
    intro k i B p h hB hB2 hi hk h0 h1
    obtain ⟨k, rfl⟩ : ∃ m, k = m + 1 := ⟨k - 1, by omega⟩
    obtain ⟨v, p1, g1, e, e0, e1, e2, e3, e4⟩ := pick_ok s hs hb p h 6 h0 (by omega)
    rw [spec_l1Cur_table.l3, if_pos (by omega), e]
    simp only [Option.bind_some]
    rw [if_pos (by omega), wrap_ok (by omega) (by omega), show ((i : Int) + 1) = ((i + 1 : Nat) : Int) by omega]
    obtain ⟨R, C, M, p', h', z, z1, z2, z3⟩ := ih k (i + 1) (B ++ [v]) p1 g1 (by simp; omega) (fun x hx => by
      rcases List.mem_append.1 hx with h | h
      · exact hB2 x h
      · have : x = v := by simpa using h
        have := e1 (by omega)
        omega) (by omega) (by omega) (by omega) (by omega)
    exact ⟨R, C, M, p', h', z, z1, by omega, z3⟩
theorem table_l2 (s : List Int) (hs : s.length ≤ 1048576) (hb : ∀ x ∈ s, 0 ≤ x ∧ x < 256) (n m : Nat) (hn0 : 1 ≤ n) (hn : n ≤ 4) (hm0 : 1 ≤ m) (hm : m ≤ 4) : ∀ (d k i : Nat) (A : List Int) (p h : Int), A.length = i → (∀ x ∈ A, 0 ≤ x ∧ x ≤ 99) → i + d = n → 110 + d < k → 0 ≤ p → p + 2 * d ≤ 880 → TabOut p (spec_l1Cur_table.l2 k (n : Int) (m : Int) A (i : Int) s p h) := by
  intro d
  induction d with
  | zero =>
    intro k i A p h hA hA2 hi hk h0 h1
    obtain ⟨k, rfl⟩ : ∃ m, k = m + 1 := ⟨k - 1, by omega⟩
    rw [spec_l1Cur_table.l2, if_neg (by omega)]
    exact table_l3 s hs hb n m hn0 hn hm0 hm A (by omega) hA2 m k 0 [] p h rfl (by simp) (by omega) (by omega) h0 (by omega)
  | succ d ih =>
    intro k i A p h hA hA2 hi hk h0 h1
    obtain ⟨k, rfl⟩ : ∃ m, k = m + 1 := ⟨k - 1, by omega⟩
    obtain ⟨v, p1, g1, e, e0, e1, e2, e3, e4⟩ := pick_ok s hs hb p h 6 h0 (by omega)
    rw [spec_l1Cur_table.l2, if_pos (by omega), e]
    simp only [Option.bind_some]
    rw [if_pos (by omega), wrap_ok (by omega) (by omega), show ((i : Int) + 1) = ((i + 1 : Nat) : Int) by omega]
    obtain ⟨R, C, M, p', h', z, z1, z2, z3⟩ := ih k (i + 1) (A ++ [v]) p1 g1 (by simp; omega) (fun x hx => by
      rcases List.mem_append.1 hx with h | h
      · exact hA2 x h
      · have : x = v := by simpa using h
        have := e1 (by omega)
        omega) (by omega) (by omega) (by omega) (by omega)
    exact ⟨R, C, M, p', h', z, z1, by omega, z3⟩
theorem dtable_l0 (s : List Int) (hs : s.length ≤ 1048576) (hb : ∀ x ∈ s, 0 ≤ x ∧ x < 256) (n m : Nat) (hn0 : 1 ≤ n) (hn : n ≤ 4) (hm0 : 1 ≤ m) (hm : m ≤ 4) (x6 : Int) : ∀ (d k i : Nat) (M : List Int) (p h : Int), M.length = i → i + d = n → 150 + d * 10 < k → 0 ≤ p → p + 20 * d ≤ 800 → TabOut p (spec_l1Cur_table.l0 k (n : Int) (m : Int) x6 (i : Int) s p h (n : Int) (m : Int) M) := by
  intro d
  induction d with
  | zero =>
    intro k i M p h hM hi hk h0 h1
    obtain ⟨k, rfl⟩ : ∃ m, k = m + 1 := ⟨k - 1, by omega⟩
    rw [spec_l1Cur_table.l0, if_neg (by omega)]
    split
    · exact table_l2 s hs hb n m hn0 hn hm0 hm n k 0 [] p h rfl (by simp) (by omega) (by omega) h0 (by omega)
    · exact table_j4 s hs hb k (by omega) _ _ p h _ _ _ (by omega) h0 (by omega) (by omega) (by omega)
  | succ d ih =>
    intro k i M p h hM hi hk h0 h1
    obtain ⟨k, rfl⟩ : ∃ m, k = m + 1 := ⟨k - 1, by omega⟩
    rw [spec_l1Cur_table.l0, if_pos (by omega)]
    have inner : ∀ (e k j : Nat) (x8 p h : Int), j + e = m → 150 + d * 10 + 1 + e < k → 0 ≤ p → p + 4 * e + 20 * d ≤ 800 → TabOut p (spec_l1Cur_table.l1 k (n : Int) (m : Int) x6 (i : Int) x8 (j : Int) s p h (n : Int) (m : Int) M) := by
      intro e
      induction e with
      | zero =>
        intro k j x8 p h hj hk h0 h1
        obtain ⟨k, rfl⟩ : ∃ m, k = m + 1 := ⟨k - 1, by omega⟩
        rw [spec_l1Cur_table.l1, if_neg (by omega), if_pos (by omega), wrap_ok (by omega) (by omega), show ((i : Int) + 1) = ((i + 1 : Nat) : Int) by omega]
        exact ih k (i + 1) _ p h (by simp; omega) (by omega) (by omega) h0 (by omega)
      | succ e ihe =>
        intro k j x8 p h hj hk h0 h1
        obtain ⟨k, rfl⟩ : ∃ m, k = m + 1 := ⟨k - 1, by omega⟩
        obtain ⟨b2, p2, g2, o2, r2, q2⟩ := one_ok s hs hb p h 2 h0 (by omega)
        obtain ⟨b4, p4, g4, o4, r4, q4⟩ := one_ok s hs hb p h 4 h0 (by omega)
        obtain ⟨b5, p5, g5, o5, r5, q5⟩ := one_ok s hs hb p2 g2 4 (by omega) (by omega)
        have next : ∀ (x' p' h' : Int), p ≤ p' → p' ≤ p + 4 → TabOut p (spec_l1Cur_table.l1 k (n : Int) (m : Int) x6 (i : Int) x' ((j + 1 : Nat) : Int) s p' h' (n : Int) (m : Int) M) := by
          intro x' p' h' h3 h4
          obtain ⟨R, C, M, p3, h3, z, z1, z2, z3⟩ := ihe k (j + 1) x' p' h' (by omega) (by omega) (by omega) (by omega)
          exact ⟨R, C, M, p3, h3, z, z1, by omega, z3⟩
        have c1 : (0 : Int) ≤ (j : Int) := Int.natCast_nonneg j
        rw [spec_l1Cur_table.l1, if_pos (by omega), wrap_ok (by omega) (by omega), show ((j : Int) + 1) = ((j + 1 : Nat) : Int) by omega]
        simp only [o2, o4, Option.bind_some, if_pos c1]
        simp only [o5, Option.bind_some]
        repeat' split
        all_goals first
          | exact next _ p h (by omega) (by omega)
          | exact next _ p2 g2 (by omega) (by omega)
          | exact next _ p4 g4 (by omega) (by omega)
          | exact next _ p5 g5 (by omega) (by omega)
    exact inner m k 0 0 p h (by omega) (by omega) h0 (by omega)
theorem table_ok (s : List Int) (hs : s.length ≤ 1048576) (hb : ∀ x ∈ s, 0 ≤ x ∧ x < 256) (k : Nat) (hk : 300 < k) : TabOut 0 (spec_l1Cur_table.f k s 0 0) := by
  unfold spec_l1Cur_table.f
  obtain ⟨v, p1, g1, e, e0, e1, e2, e3, e4⟩ := pick_ok s hs hb 0 0 4 (by omega) (by omega)
  obtain ⟨w, p2, g2, f, f0, f1, f2, f3, f4⟩ := pick_ok s hs hb p1 g1 4 (by omega) (by omega)
  obtain ⟨x, p3, g3, o, o0, o1, o2, o3, o4⟩ := pick_ok s hs hb p2 g2 3 (by omega) (by omega)
  have v4 := e1 (by omega)
  have w4 := f1 (by omega)
  rw [e]
  simp only [Option.bind_some]
  rw [f]
  simp only [Option.bind_some]
  rw [o]
  simp only [Option.bind_some]
  obtain ⟨n, rfl⟩ := Int.eq_ofNat_of_zero_le e0
  obtain ⟨m, rfl⟩ := Int.eq_ofNat_of_zero_le f0
  rw [wrap_ok (x := 1 + (n : Int)) (by omega) (by omega), wrap_ok (x := 1 + (m : Int)) (by omega) (by omega), show (1 + (n : Int)) = ((n + 1 : Nat) : Int) by omega, show (1 + (m : Int)) = ((m + 1 : Nat) : Int) by omega]
  obtain ⟨R, C, M, p', h', z, z1, z2, z3⟩ := dtable_l0 s hs hb (n + 1) (m + 1) (by omega) (by omega) (by omega) (by omega) x (n + 1) k 0 [] p3 g3 rfl (by omega) (by omega) (by omega) (by omega)
  exact ⟨R, C, M, p', h', z, z1, by omega, z3⟩
theorem drawFree_ok (s : List Int) (hs : s.length ≤ 1048576) (hb : ∀ x ∈ s, 0 ≤ x ∧ x < 256) (k : Nat) (hk : 500 < k) : ∃ R C M l, M.length ≤ 6 ∧ l.length ≤ 40 ∧ spec_DrawFreeOrder.f k s = some (R, C, M, l) := by
  unfold spec_DrawFreeOrder.f
  obtain ⟨R, C, M, p, h, e, e1, e2, e3⟩ := table_ok s hs hb k (by omega)
  rw [e]
  simp only [Option.bind_some]
  rw [feGood_k R C M (by omega) k (by omega)]
  simp only [Option.bind_some]
  have j1 : ∀ (k : Nat) (x : List Int) (p h : Int), 0 < k → x.length ≤ 36 → 0 ≤ p → p ≤ 5000 → ∃ R' C' M' l, M'.length ≤ 6 ∧ l.length ≤ 40 ∧ spec_DrawFreeOrder.j1 k x s p h R C M = some (R', C', M', l) := by
    intro k x p h hk hx h0 h1
    obtain ⟨k, rfl⟩ : ∃ m, k = m + 1 := ⟨k - 1, by omega⟩
    obtain ⟨b, p1, g1, o, o1, o2⟩ := one_ok s hs hb p h 12 h0 (by omega)
    obtain ⟨v', p', h', z, z1, z2⟩ := among_ok s hs hb p1 g1 [(-1), 0, 1, 35, 36] (by simp) (by omega) (by omega)
    rw [spec_DrawFreeOrder.j1, o]
    simp only [Option.bind_some]
    split
    · rw [z]
      simp only [Option.bind_some]
      rw [if_pos (by omega)]
      exact ⟨_, _, _, _, e1, by simp; omega, rfl⟩
    · exact ⟨_, _, _, _, e1, by omega, rfl⟩
  cases hT : isTab R C M
  · simp only [Bool.false_eq_true, if_false]
    exact j1 k [] p h (by omega) (by simp) (by omega) (by omega)
  · obtain ⟨r, c, ms, rfl, rfl, rfl, h1, h2, h3, h4, h5, h6⟩ := (isTab_iff R C M).1 hT
    have h64 : ∀ x ∈ ms, x < 64 := fun x hx => Nat.lt_of_lt_of_le (h6 x hx) (Nat.pow_le_pow_right (n := 2) (by omega) h4)
    simp only [if_true]
    rw [feEmpty_k r c ms h5 h2 h4 h64 k (by omega)]
    simp only [Option.bind_some]
    have le := emptyTo_length c ms r
    have lr : r * c ≤ 6 * 6 := Nat.mul_le_mul h2 h4
    have main : ∀ (d k i : Nat) (x : List Int) (p h : Int), x.length ≤ i → i + d = (emptyTo c ms r).length → d + 1 < k → 0 ≤ p → p + 2 * d ≤ 4000 → ∃ R' C' M' l, M'.length ≤ 6 ∧ l.length ≤ 40 ∧ spec_DrawFreeOrder.l0 k x (emptyTo c ms r) ((emptyTo c ms r).length : Int) (i : Int) s p h (r : Int) (c : Int) (ms.map (fun (x : Nat) => (x : Int))) = some (R', C', M', l) := by
      intro d
      induction d with
      | zero =>
        intro k i x p h hx hi hk h0 h1
        obtain ⟨k, rfl⟩ : ∃ m, k = m + 1 := ⟨k - 1, by omega⟩
        rw [spec_DrawFreeOrder.l0, if_neg (by omega)]
        exact j1 k x p h (by omega) (by omega) h0 (by omega)
      | succ d ih =>
        intro k i x p h hx hi hk h0 h1
        obtain ⟨k, rfl⟩ : ∃ m, k = m + 1 := ⟨k - 1, by omega⟩
        obtain ⟨b, p1, g1, o, o1, o2⟩ := one_ok s hs hb p h 2 h0 (by omega)
        rw [spec_DrawFreeOrder.l0, if_pos (by omega), if_pos (by omega), if_pos (by omega), o]
        simp only [Option.bind_some]
        rw [wrap_ok (by omega) (by omega), show ((i : Int) + 1) = ((i + 1 : Nat) : Int) by omega]
        split
        · rw [if_pos (by omega)]
          exact ih k (i + 1) _ p1 g1 (by simp; omega) (by omega) (by omega) (by omega) (by omega)
        · exact ih k (i + 1) x p1 g1 (by omega) (by omega) (by omega) (by omega) (by omega)
    exact main (emptyTo c ms r).length k 0 [] p h (by simp) (by omega) (by omega) (by omega) (by omega)

theorem vNumber_ok (s : List Int) (hs : s.length ≤ 1048576) (hb : ∀ x ∈ s, 0 ≤ x ∧ x < 256) (k : Nat) (hk : s.length < k) : ∃ v, laws_vNumber.f k s = some v ∧ 0 ≤ v := by
  unfold laws_vNumber.f
  have main : ∀ (d k i : Nat) (x : Int), 0 ≤ x → x < 1000003 → i + d = s.length → d < k → ∃ v, laws_vNumber.l0 k x s (s.length : Int) (i : Int) = some v ∧ 0 ≤ v := by
    intro d
    induction d with
    | zero =>
      intro k i x h0 h1 hi hk
      obtain ⟨k, rfl⟩ : ∃ m, k = m + 1 := ⟨k - 1, by omega⟩
      rw [laws_vNumber.l0, if_neg (by omega)]
      exact ⟨x, rfl, h0⟩
    | succ d ih =>
      intro k i x h0 h1 hi hk
      obtain ⟨k, rfl⟩ : ∃ m, k = m + 1 := ⟨k - 1, by omega⟩
      have hv := rd_byte s hb (i : Int) (by omega) (by omega)
      rw [laws_vNumber.l0, if_pos (by omega), if_pos (by omega), if_pos (by omega), wrap_ok (x := 31 * x) (by omega) (by omega), wrap_ok (x := rd s (i : Int)) (by omega) (by omega), wrap_ok (x := 31 * x + rd s (i : Int)) (by omega) (by omega), wrap_ok (by omega) (by omega), show ((i : Int) + 1) = ((i + 1 : Nat) : Int) by omega]
      exact ih k (i + 1) _ (Int.tmod_nonneg _ (by omega)) (Int.tmod_lt_of_pos _ (by omega)) (by omega) (by omega)
  exact main s.length k 0 0 (by omega) (by omega) (by omega) hk
theorem byte_wf (s : List Int) (h : ∀ x ∈ s, (Lit.int .u8 x).wf = true) : ∀ x ∈ s, 0 ≤ x ∧ x < 256 := by
  intro x hx
  have e : IntKind.u8.min ≤ x ∧ x ≤ IntKind.u8.max := by simpa [Lit.wf] using h x hx
  have m : IntKind.u8.min = 0 := by decide
  have m2 : IntKind.u8.max = 255 := by decide
  omega

theorem sub_len : ∀ (l m : List Nat), l.Nodup → (∀ x ∈ l, x ∈ m) → l.length ≤ m.length := by
  intro l
  induction l with
  | nil => intro m _ _; simp
  | cons a l ih =>
    intro m hn hs
    rw [List.nodup_cons] at hn
    have h1 := ih (m.erase a) hn.2 (fun x hx => (List.mem_erase_of_ne (fun e => hn.1 (by rw [← e]; exact hx))).2 (hs x (List.mem_cons_of_mem _ hx)))
    have h2 := List.length_erase_of_mem (hs a List.mem_cons_self)
    have h3 : 1 ≤ m.length := List.length_pos_of_mem (hs a List.mem_cons_self)
    simp only [List.length_cons]
    omega
/-- The order is right: each row comes once, and behind the rows of the cells whose columns it marks. -/
def OrdOK (C : Nat) (ms cs o : List Nat) : Prop := o.Nodup ∧ ∀ j, j < o.length → ∀ q, q < cs.length → mk ms (o.getD j 0) (cs.getD q 0 % C) = true → (cs.getD q 0 / C) ∈ o.take j
theorem ready_facts {C : Nat} {ms cs out : List Nat} {r : Nat} : ready C ms cs out r = true ↔ r ∉ out ∧ ∀ q, q < cs.length → mk ms r (cs.getD q 0 % C) = true → (cs.getD q 0 / C) ∈ out := by
  unfold ready
  rw [Bool.and_eq_true, List.all_eq_true]
  constructor
  · rintro ⟨h1, h2⟩
    refine ⟨by simpa using h1, fun q hq hm => ?_⟩
    have := h2 q (by rw [List.mem_range']; exact ⟨q, hq, by omega⟩)
    rw [hm] at this
    simpa using this
  · rintro ⟨h1, h2⟩
    refine ⟨by simpa using h1, fun q hq => ?_⟩
    rw [List.mem_range'] at hq
    obtain ⟨i, hi, e⟩ := hq
    have ei : q = i := by omega
    subst ei
    cases hm : mk ms r (cs.getD q 0 % C)
    · rfl
    · simpa using h2 q hi hm
theorem ordOK_snoc {C : Nat} {ms cs out : List Nat} {r : Nat} (h : OrdOK C ms cs out) (hr : ready C ms cs out r = true) : OrdOK C ms cs (out ++ [r]) := by
  obtain ⟨h1, h2⟩ := ready_facts.1 hr
  refine ⟨?_, ?_⟩
  · rw [List.nodup_append]
    refine ⟨h.1, by simp, ?_⟩
    intro a ha b hb
    have : b = r := by simpa using hb
    rw [this]
    exact fun e => h1 (by rw [← e]; exact ha)
  · intro j hj q hq hm
    have hj2 : j < out.length + 1 := by simpa using hj
    by_cases hjl : j < out.length
    · have e1 : (out ++ [r]).getD j 0 = out.getD j 0 := by
        simp only [List.getD_eq_getElem?_getD]
        rw [List.getElem?_append_left hjl]
      rw [e1] at hm
      have := h.2 j hjl q hq hm
      rw [List.take_append_of_le_length (by omega)]
      exact this
    · have ej : j = out.length := by omega
      subst ej
      have e1 : (out ++ [r]).getD out.length 0 = r := by simp [List.getD_eq_getElem?_getD]
      rw [e1] at hm
      have := h2 q hq hm
      rw [List.take_append_of_le_length (by omega), List.take_of_length_le (by omega)]
      exact this
theorem orderFrom_ok (R C : Nat) (ms cs : List Nat) : ∀ d out l, OrdOK C ms cs out → orderFrom R C ms cs d out = some l → OrdOK C ms cs l := by
  intro d
  induction d with
  | zero =>
    intro out l h e
    simp only [orderFrom, Option.some.injEq] at e
    rw [← e]
    exact h
  | succ d ih =>
    intro out l h e
    simp only [orderFrom] at e
    cases hp : pick R C ms cs out with
    | none => simp [hp] at e
    | some r =>
      rw [hp] at e
      exact ih _ l (ordOK_snoc h (List.find?_some hp)) e
theorem all_rows (R : Nat) (o : List Nat) (hn : o.Nodup) (hl : o.length = R) (ho : ∀ s ∈ o, s < R) (r : Nat) (hr : r < R) : r ∈ o := by
  apply Classical.byContradiction
  intro h
  have := sub_len (r :: o) (List.range R) (List.nodup_cons.2 ⟨h, hn⟩) (fun x hx => by
    rw [List.mem_range]
    rcases List.mem_cons.1 hx with e | e
    · omega
    · exact ho x e)
  simp at this
  omega
theorem mem_getD (o : List Nat) (r : Nat) (h : r ∈ o) : ∃ j, j < o.length ∧ o.getD j 0 = r := by
  obtain ⟨j, hj, e⟩ := List.getElem_of_mem h
  exact ⟨j, hj, by rw [List.getD_eq_getElem?_getD, List.getElem?_eq_getElem hj, e]; rfl⟩
theorem getD_mem (o : List Nat) (j : Nat) (h : j < o.length) : o.getD j 0 ∈ o := by
  rw [List.getD_eq_getElem?_getD, List.getElem?_eq_getElem h]
  exact List.getElem_mem h
theorem take_getD (o : List Nat) (j r : Nat) (h : r ∈ o.take j) : ∃ k, k < j ∧ k < o.length ∧ o.getD k 0 = r := by
  obtain ⟨k, hk, e⟩ := mem_getD _ r h
  rw [List.length_take] at hk
  refine ⟨k, by omega, by omega, ?_⟩
  rw [← e]
  simp only [List.getD_eq_getElem?_getD]
  rw [List.getElem?_take_of_lt (by omega)]
theorem getD_inj (o : List Nat) (hn : o.Nodup) (i j : Nat) (hi : i < o.length) (hj : j < o.length) (e : o.getD i 0 = o.getD j 0) : i = j := by
  rw [List.getD_eq_getElem?_getD, List.getElem?_eq_getElem hi, List.getD_eq_getElem?_getD, List.getElem?_eq_getElem hj] at e
  exact (List.getElem_inj hn).1 e
/-- Fewer cells: an order is found, too. -/
theorem orderFrom_fewer (R C : Nat) (ms cs cs' o : List Nat) (hl : o.length = R) (ho : ∀ s ∈ o, s < R) (hok : OrdOK C ms cs o) (hsub : ∀ x ∈ cs', x ∈ cs) : ∀ d out, out.length + d = R → (orderFrom R C ms cs' d out).isSome = true := by
  intro d
  induction d with
  | zero => intro out _; rfl
  | succ d ih =>
    intro out hd
    have first : ∀ j, j ≤ o.length → (∀ k, k < j → o.getD k 0 ∈ out) ∨ ∃ j', j' < j ∧ o.getD j' 0 ∉ out ∧ ∀ k, k < j' → o.getD k 0 ∈ out := by
      intro j
      induction j with
      | zero => intro _; exact .inl (fun k hk => by omega)
      | succ j ihj =>
        intro hj
        rcases ihj (by omega) with h | ⟨j', h1, h2⟩
        · by_cases hm : o.getD j 0 ∈ out
          · refine .inl fun k hk => ?_
            by_cases e : k = j
            · rw [e]; exact hm
            · exact h k (by omega)
          · exact .inr ⟨j, by omega, hm, h⟩
        · exact .inr ⟨j', by omega, h2⟩
    rcases first o.length (Nat.le_refl _) with h | ⟨j, hj, hn, hk⟩
    · have := sub_len o out hok.1 (fun x hx => by
        obtain ⟨j, hj, e⟩ := mem_getD o x hx
        rw [← e]
        exact h j hj)
      omega
    · have hr : ready C ms cs' out (o.getD j 0) = true := by
        rw [ready_facts]
        refine ⟨hn, fun q hq hm => ?_⟩
        obtain ⟨q', hq', e⟩ := mem_getD cs _ (hsub _ (getD_mem cs' q hq))
        rw [← e] at hm ⊢
        obtain ⟨k, hk1, _, hk3⟩ := take_getD o j _ (hok.2 j hj q' hq' hm)
        rw [← hk3]
        exact hk k hk1
      rw [orderFrom]
      cases hp : pick R C ms cs' out with
      | none =>
        unfold pick at hp
        have := List.find?_eq_none.1 hp (o.getD j 0) (by rw [List.mem_range']; exact ⟨o.getD j 0, ho _ (getD_mem o j hj), by omega⟩)
        exact absurd hr this
      | some r =>
        simp only [Option.bind_some]
        exact ih (out ++ [r]) (by simp; omega)
/-- The marks of the first i rows of an order. -/
def upTo (ms o : List Nat) : Nat → Nat
  | 0 => 0
  | i + 1 => upTo ms o i ||| ms.getD (o.getD i 0) 0
/-- The rows of a cover. -/
def covN (R : Nat) (ms o : List Nat) : Nat → List Nat
  | 0 => List.replicate R 0
  | i + 1 => (covN R ms o i).set (o.getD i 0) (upTo ms o (i + 1))
theorem covN_length (R : Nat) (ms o : List Nat) (i : Nat) : (covN R ms o i).length = R := by
  induction i with
  | zero => simp [covN]
  | succ i ih => simp [covN, ih]
theorem upTo_lt (c : Nat) (ms o : List Nat) (hb : ∀ x ∈ ms, x < 2 ^ c) (i : Nat) : upTo ms o i < 2 ^ c := by
  induction i with
  | zero => exact Nat.two_pow_pos _
  | succ i ih => exact Nat.or_lt_two_pow ih (getD_lt (Nat.two_pow_pos _) hb _)
theorem upTo_bit (ms o : List Nat) (i c : Nat) : (upTo ms o i).testBit c = true ↔ ∃ j, j < i ∧ (ms.getD (o.getD j 0) 0).testBit c = true := by
  induction i with
  | zero => simp [upTo]
  | succ i ih =>
    rw [upTo, Nat.testBit_or, Bool.or_eq_true, ih]
    constructor
    · rintro (⟨j, h1, h2⟩ | h)
      · exact ⟨j, by omega, h2⟩
      · exact ⟨i, by omega, h⟩
    · rintro ⟨j, h1, h2⟩
      by_cases e : j = i
      · subst e
        exact .inr h2
      · exact .inl ⟨j, by omega, h2⟩
theorem covN_get (R : Nat) (ms o : List Nat) (hn : o.Nodup) (ho : ∀ s ∈ o, s < R) : ∀ i, i ≤ o.length → ∀ j, j < i → (covN R ms o i).getD (o.getD j 0) 0 = upTo ms o (j + 1) := by
  intro i
  induction i with
  | zero => intro _ j hj; omega
  | succ i ih =>
    intro hi j hj
    rw [covN]
    have hoi : o.getD i 0 < R := ho _ (getD_mem o i (by omega))
    by_cases e : j = i
    · subst e
      rw [List.getD_eq_getElem?_getD, List.getElem?_set_self (by rw [covN_length]; exact hoi)]
      rfl
    · have hne : o.getD i 0 ≠ o.getD j 0 := fun h => e (getD_inj o hn i j (by omega) (by omega) h).symm
      rw [List.getD_eq_getElem?_getD, List.getElem?_set_ne hne, ← List.getD_eq_getElem?_getD]
      exact ih (by omega) j (by omega)
theorem covN_lt (R c : Nat) (ms o : List Nat) (hb : ∀ x ∈ ms, x < 2 ^ c) (i : Nat) : ∀ x ∈ covN R ms o i, x < 2 ^ c := by
  induction i with
  | zero =>
    intro x hx
    rw [covN] at hx
    have := List.eq_of_mem_replicate hx
    rw [this]
    exact Nat.two_pow_pos _
  | succ i ih =>
    intro x hx
    rw [covN] at hx
    rcases List.mem_or_eq_of_mem_set hx with h | h
    · exact ih x h
    · rw [h]
      exact upTo_lt c ms o hb (i + 1)
theorem cover_l0 (R C : Nat) (ms o : List Nat) (hR : ms.length = R) (hC : C ≤ 6) (hb : ∀ x ∈ ms, x < 2 ^ C) (ho : ∀ s ∈ o, s < R) (hl : o.length ≤ 6) : ∀ (d k i : Nat), i + d = o.length → d < k →
    impl_Table_cover.l0 k ((upTo ms o i : Nat) : Int) (o.map (fun (x : Nat) => (x : Int))) (o.length : Int) (i : Int) (R : Int) (C : Int) (ms.map (fun (x : Nat) => (x : Int))) (R : Int) (C : Int) ((covN R ms o i).map (fun (x : Nat) => (x : Int))) = some ((R : Int), (C : Int), (covN R ms o o.length).map (fun (x : Nat) => (x : Int))) ∧
    spec_feCover.l0 k ((upTo ms o i : Nat) : Int) (o.map (fun (x : Nat) => (x : Int))) (o.length : Int) (i : Int) (R : Int) (C : Int) (ms.map (fun (x : Nat) => (x : Int))) (R : Int) (C : Int) ((covN R ms o i).map (fun (x : Nat) => (x : Int))) = some ((R : Int), (C : Int), (covN R ms o o.length).map (fun (x : Nat) => (x : Int))) := by
  intro d
  induction d with
  | zero =>
    intro k i hi hk
    obtain ⟨k, rfl⟩ : ∃ m, k = m + 1 := ⟨k - 1, by omega⟩
    simp only [impl_Table_cover.l0, spec_feCover.l0]
    have e : i = o.length := by omega
    rw [if_neg (by omega), if_neg (by omega), e]
    exact ⟨rfl, rfl⟩
  | succ d ih =>
    intro k i hi hk
    obtain ⟨k, rfl⟩ : ∃ m, k = m + 1 := ⟨k - 1, by omega⟩
    simp only [impl_Table_cover.l0, spec_feCover.l0]
    have lo : ((o.map (fun (x : Nat) => (x : Int))).length : Int) = (o.length : Int) := by simp
    have lm : ((ms.map (fun (x : Nat) => (x : Int))).length : Int) = (R : Int) := by simp [hR]
    have lv : (((covN R ms o i).map (fun (x : Nat) => (x : Int))).length : Int) = (R : Int) := by simp [covN_length]
    have h2 : 2 ^ C ≤ 2 ^ 6 := Nat.pow_le_pow_right (by omega) hC
    have a1 := upTo_lt C ms o hb i
    have a2 := getD_lt (Nat.two_pow_pos C) hb (o.getD i 0)
    have ho2 : o.getD i 0 < R := ho _ (getD_mem o i (by omega))
    have e3 : ((o.getD i 0 : Nat) : Int).toNat = o.getD i 0 := by omega
    have next := ih k (i + 1) (by omega) (by omega)
    have es : ((covN R ms o i).map (fun (x : Nat) => (x : Int))).set (o.getD i 0) ((upTo ms o i ||| ms.getD (o.getD i 0) 0 : Nat) : Int) = (covN R ms o (i + 1)).map (fun (x : Nat) => (x : Int)) := by
      rw [covN, List.map_set]
      rfl
    rw [rd_map, rd_map, or_nat _ _ (by omega) (by omega), wrap_ok (by omega) (by omega), show ((i : Int) + 1) = ((i + 1 : Nat) : Int) by omega, e3, es, if_pos (by omega), if_pos (by omega), if_pos (by omega), if_pos (by omega), if_pos (by omega), if_pos (by omega), if_pos (by omega), if_pos (by omega), if_pos (by omega), if_pos (by omega), if_pos (by omega), if_pos (by omega)]
    exact next
theorem cover_k (R C : Nat) (ms o : List Nat) (hR : ms.length = R) (hR6 : R ≤ 6) (hC : C ≤ 6) (hb : ∀ x ∈ ms, x < 2 ^ C) (ho : ∀ s ∈ o, s < R) (hl : o.length ≤ 6) (k : Nat) (hk : 6 < k) :
    impl_Table_cover.f k (R : Int) (C : Int) (ms.map (fun (x : Nat) => (x : Int))) (o.map (fun (x : Nat) => (x : Int))) = some ((R : Int), (C : Int), (covN R ms o o.length).map (fun (x : Nat) => (x : Int))) ∧
    spec_feCover.f k (R : Int) (C : Int) (ms.map (fun (x : Nat) => (x : Int))) (o.map (fun (x : Nat) => (x : Int))) = some ((R : Int), (C : Int), (covN R ms o o.length).map (fun (x : Nat) => (x : Int))) := by
  unfold impl_Table_cover.f spec_feCover.f
  have e : ((R : Int)).toNat = R := by omega
  have lo : ((o.map (fun (x : Nat) => (x : Int))).length : Int) = (o.length : Int) := by simp
  have er : List.replicate R (0 : Int) = (covN R ms o 0).map (fun (x : Nat) => (x : Int)) := by simp [covN]
  rw [if_pos (by omega), if_pos (by omega), if_pos (by omega), if_pos (by omega), e, lo, er]
  exact cover_l0 R C ms o hR hC hb ho hl o.length k 0 (by omega) (by omega)
/-- What is known of a cover: the rows of the table are in it, no free cell is, and its rows are nested. -/
theorem cover_facts (R C : Nat) (ms cs o : List Nat) (hR : ms.length = R) (hl : o.length = R) (ho : ∀ s ∈ o, s < R) (hok : OrdOK C ms cs o) (hC0 : 1 ≤ C) (hcs : ∀ c ∈ cs, c < R * C) :
    (∀ r c, r < R → mk ms r c = true → mk (covN R ms o o.length) r c = true) ∧ (∀ q, q < cs.length → mk (covN R ms o o.length) (cs.getD q 0 / C) (cs.getD q 0 % C) = false) ∧ (∀ r s c d, r < R → s < R → four (covN R ms o o.length) r c s d = false) := by
  have pos : ∀ r, r < R → ∃ j, j < o.length ∧ o.getD j 0 = r := fun r hr => mem_getD o r (all_rows R o hok.1 hl ho r hr)
  have row : ∀ j, j < o.length → (covN R ms o o.length).getD (o.getD j 0) 0 = upTo ms o (j + 1) := fun j hj => covN_get R ms o hok.1 ho o.length (Nat.le_refl _) j hj
  refine ⟨?_, ?_, ?_⟩
  · intro r c hr hm
    obtain ⟨j, hj, e⟩ := pos r hr
    unfold mk at hm ⊢
    rw [← e, row j hj, upTo_bit]
    exact ⟨j, by omega, by rw [e]; exact hm⟩
  · intro q hq
    have hrow : cs.getD q 0 / C < R := cs_row R C cs hcs q hq
    obtain ⟨j, hj, e⟩ := pos _ hrow
    cases hm : mk (covN R ms o o.length) (cs.getD q 0 / C) (cs.getD q 0 % C)
    · rfl
    · unfold mk at hm
      rw [← e, row j hj, upTo_bit] at hm
      obtain ⟨i, hi, hb⟩ := hm
      obtain ⟨k, hk1, hk2, hk3⟩ := take_getD o i _ (hok.2 i (by omega) q hq hb)
      have := getD_inj o hok.1 k j hk2 hj (by rw [hk3, e])
      omega
  · intro r s c d hr hs
    obtain ⟨i, hi, e⟩ := pos r hr
    obtain ⟨j, hj, f⟩ := pos s hs
    cases h : four (covN R ms o o.length) r c s d
    · rfl
    · unfold four mk at h
      rw [← e, ← f, row i hi, row j hj] at h
      simp only [Bool.and_eq_true, Bool.not_eq_true'] at h
      obtain ⟨⟨⟨f1, f2⟩, f3⟩, f4⟩ := h
      have up : ∀ a b x, a ≤ b → (upTo ms o a).testBit x = true → (upTo ms o b).testBit x = true := by
        intro a b x hab hx
        rw [upTo_bit] at hx ⊢
        obtain ⟨t, ht, hx⟩ := hx
        exact ⟨t, by omega, hx⟩
      rcases Nat.le_total i j with hij | hij
      · have := up (i + 1) (j + 1) c (by omega) f1
        rw [f4] at this
        cases this
      · have := up (j + 1) (i + 1) d (by omega) f3
        rw [f2] at this
        cases this
theorem four0_none (R C : Nat) (ms : List Nat) (h : ∀ r s c d, r < R → s < R → four ms r c s d = false) : four0 R C ms = none := by
  unfold four0
  rw [fs_none]
  intro r hr
  unfold four1
  rw [fs_none]
  intro c _
  unfold four2
  rw [fs_none]
  intro s hs
  unfold four3
  rw [fs_none]
  intro d _
  unfold four4
  rw [h r s c d hr hs]
  rfl

theorem vSame_k (l : List Int) (hl : l.length ≤ 1048576) (k : Nat) (hk : l.length < k) : laws_vSame.f k l l = some true := by
  unfold laws_vSame.f
  rw [if_pos rfl]
  have main : ∀ (d k i : Nat), i + d = l.length → d < k → laws_vSame.l0 k l l (l.length : Int) (i : Int) = some true := by
    intro d
    induction d with
    | zero =>
      intro k i hi hk
      obtain ⟨k, rfl⟩ : ∃ m, k = m + 1 := ⟨k - 1, by omega⟩
      rw [laws_vSame.l0, if_neg (by omega)]
    | succ d ih =>
      intro k i hi hk
      obtain ⟨k, rfl⟩ : ∃ m, k = m + 1 := ⟨k - 1, by omega⟩
      have c1 : (i : Int) < (l.length : Int) := by omega
      have c2 : (0 : Int) ≤ (i : Int) := Int.natCast_nonneg i
      rw [laws_vSame.l0]
      simp only [if_pos c1, if_pos c2, if_true]
      rw [wrap_ok (by omega) (by omega), show ((i : Int) + 1) = ((i + 1 : Nat) : Int) by omega]
      exact ih k (i + 1) (by omega) (by omega)
  exact main l.length k 0 (by omega) hk
theorem vTable_k (R C : Int) (M : List Int) (hM : M.length ≤ 1048576) (k : Nat) (hk : M.length < k) : laws_vTable.f k R C M R C M = some true := by
  unfold laws_vTable.f
  rw [if_pos rfl, if_pos rfl, vSame_k M hM k hk]
  rfl
theorem vMarked_k (R : Int) (C : Nat) (ns : List Nat) (x : Nat) (hC0 : 1 ≤ C) (hC : C ≤ 6) (hx : x / C < ns.length) (hx2 : x < 1000) : laws_vMarked.f R (C : Int) (ns.map (fun (x : Nat) => (x : Int))) (x : Int) = some (mk ns (x / C) (x % C)) := by
  have t1 : Int.tmod ((x : Nat) : Int) (C : Int) = ((x % C : Nat) : Int) := rfl
  have t2 : Int.tdiv ((x : Nat) : Int) (C : Int) = ((x / C : Nat) : Int) := rfl
  have hd : x / C ≤ x := Nat.div_le_self _ _
  have hm : x % C < C := Nat.mod_lt _ (by omega)
  have lm : ((ns.map (fun (x : Nat) => (x : Int))).length : Int) = (ns.length : Int) := by simp
  unfold laws_vMarked.f
  rw [t1, t2, wrap_small _ (by omega), if_neg (by omega), if_pos (Int.natCast_nonneg (x / C)), if_pos (show ((x / C : Nat) : Int) < ((ns.map (fun (x : Nat) => (x : Int))).length : Int) by omega), if_pos (Int.natCast_nonneg (x % C)), rd_map, shr_nat _ _ (by omega), tmod_nat]
  have e2 : mk ns (x / C) (x % C) = decide ((ns.getD (x / C) 0) / 2 ^ (x % C) % 2 = 1) := Nat.testBit_eq_decide_div_mod_eq
  rw [e2]
  congr 1
  by_cases h : (ns.getD (x / C) 0) / 2 ^ (x % C) % 2 = 1
  · rw [h]; rfl
  · have h0 : (ns.getD (x / C) 0) / 2 ^ (x % C) % 2 = 0 := by omega
    rw [h0]; rfl
theorem free_no (R C : Int) (M l : List Int) (hM : M.length ≤ 6) (hl : l.length ≤ 40) (h : isTab R C M = false) (k : Nat) (hk : 3000 < k) : impl_FreeOrder.f k R C M l = some ([], false) ∧ spec_FreeOrder.f k R C M l = some ([], false) := by
  constructor
  · unfold impl_FreeOrder.f
    rw [IsTable_k R C M (by omega) k (by omega), h]
    rfl
  · unfold spec_FreeOrder.f spec_feCells.f
    obtain ⟨k, rfl⟩ : ∃ m, k = m + 1 := ⟨k - 1, by omega⟩
    rw [feGood_k R C M (by omega) (k + 1) (by omega), h]
    rfl
theorem free_bad (r c : Nat) (ms : List Nat) (l : List Int) (hl : l.length ≤ 40) (h2 : r ≤ 6) (h3 : 1 ≤ c) (h4 : c ≤ 6) (h5 : ms.length = r) (h64 : ∀ x ∈ ms, x < 64) (hT : isTab (r : Int) (c : Int) (ms.map (fun (x : Nat) => (x : Int))) = true) (hc : ¬ Cells ((r * c : Nat) : Int) c ms l) (k : Nat) (hk : 3000 < k) : impl_FreeOrder.f k (r : Int) (c : Int) (ms.map (fun (x : Nat) => (x : Int))) l = some ([], false) ∧ spec_FreeOrder.f k (r : Int) (c : Int) (ms.map (fun (x : Nat) => (x : Int))) l = some ([], false) := by
  have lm : (ms.map (fun (x : Nat) => (x : Int))).length = r := by simp [h5]
  obtain ⟨b, hb1, hb2, hb3⟩ := cells_k r c ms hT h5 h2 h3 h4 h64 l (by omega) k (by omega)
  have : b = false := by
    cases b
    · rfl
    · exact absurd (hb3.1 rfl) hc
  constructor
  · unfold impl_FreeOrder.f
    rw [IsTable_k _ _ _ (by omega) k (by omega), hT]
    simp only [Option.bind_some, if_true]
    rw [hb1, this]
    rfl
  · unfold spec_FreeOrder.f
    rw [hb2, this]
    rfl
theorem free_yes (r c : Nat) (ms cs : List Nat) (hl : cs.length ≤ 40) (h1 : 1 ≤ r) (h2 : r ≤ 6) (h3 : 1 ≤ c) (h4 : c ≤ 6) (h5 : ms.length = r) (h64 : ∀ x ∈ ms, x < 64) (hT : isTab (r : Int) (c : Int) (ms.map (fun (x : Nat) => (x : Int))) = true) (hc : Cells ((r * c : Nat) : Int) c ms (cs.map (fun (x : Nat) => (x : Int)))) (hcs : ∀ x ∈ cs, x < r * c) (k : Nat) (hk : 3000 < k) : impl_FreeOrder.f k (r : Int) (c : Int) (ms.map (fun (x : Nat) => (x : Int))) (cs.map (fun (x : Nat) => (x : Int))) = some (((orderFrom r c ms cs r []).getD []).map (fun (x : Nat) => (x : Int)), (orderFrom r c ms cs r []).isSome) ∧ spec_FreeOrder.f k (r : Int) (c : Int) (ms.map (fun (x : Nat) => (x : Int))) (cs.map (fun (x : Nat) => (x : Int))) = some (((orderFrom r c ms cs r []).getD []).map (fun (x : Nat) => (x : Int)), (orderFrom r c ms cs r []).isSome) := by
  have lm : (ms.map (fun (x : Nat) => (x : Int))).length = r := by simp [h5]
  have lc : (cs.map (fun (x : Nat) => (x : Int))).length = cs.length := by simp
  obtain ⟨b, hb1, hb2, hb3⟩ := cells_k r c ms hT h5 h2 h3 h4 h64 (cs.map (fun (x : Nat) => (x : Int))) (by omega) k (by omega)
  constructor
  · unfold impl_FreeOrder.f
    rw [IsTable_k _ _ _ (by omega) k (by omega), hT]
    simp only [Option.bind_some, if_true]
    rw [hb1, hb3.2 hc, freeOrder_k r c ms cs h5 h1 h2 h3 h4 h64 hcs (by omega) k (by omega)]
    simp only [Option.bind_some, if_true]
    cases h0 : orderFrom r c ms cs r [] with
    | none => simp
    | some o =>
      have := orderFrom_length r c ms cs r [] o h0
      have hne : ¬ (o.map (fun (x : Nat) => (x : Int))) = [] := by
        intro h
        have := congrArg List.length h
        simp at this
        rw [this] at h0
        simp_all
        omega
      rw [Option.getD_some, if_neg hne]
      rfl
  · unfold spec_FreeOrder.f
    rw [hb2, hb3.2 hc]
    simp only [Option.bind_some, if_true]
    rw [feOrder_k r c ms cs h5 h2 h3 h4 h64 hcs (by omega) k (by omega)]
    cases h0 : orderFrom r c ms cs r [] <;> rfl
theorem row_self (x n : Nat) (h : x < 2 ^ n) : bitsum x.testBit n = x := by
  apply Nat.eq_of_testBit_eq
  intro i
  rw [bitsum_bit]
  by_cases hi : i < n
  · simp [hi]
  · have : x.testBit i = false := Nat.testBit_lt_two_pow (Nat.lt_of_lt_of_le h (Nat.pow_le_pow_right (by omega) (by omega)))
    simp [this]
theorem meet_sub (r c : Nat) (ms ns : List Nat) (h5 : ms.length = r) (h6 : ∀ x ∈ ms, x < 2 ^ c) (hs : ∀ i j, i < r → mk ms i j = true → mk ns i j = true) : relList r c (fun r c => mk ms r c && mk ns r c) = ms.map (fun (x : Nat) => (x : Int)) := by
  rw [relList_congr (p' := fun i j => mk ms i j) (fun i j hi _ => by
    cases h : mk ms i j
    · rfl
    · rw [hs i j hi h]; rfl)]
  unfold relList
  apply List.ext_getElem
  · simp [h5]
  · intro i hi1 hi2
    have hi : i < r := by simpa using hi1
    simp only [List.getElem_map, List.getElem_range]
    have e : (bitsum (fun j => mk ms i j) c) = ms[i]'(by omega) := by
      have := row_self (ms.getD i 0) c (getD_lt (Nat.two_pow_pos c) h6 i)
      have e2 : ms.getD i 0 = ms[i]'(by omega) := by
        rw [List.getD_eq_getElem?_getD, List.getElem?_eq_getElem (by omega)]
        rfl
      rw [← e2]
      exact this
    exact congrArg (fun (x : Nat) => (x : Int)) e
theorem meet_1 (R C R' C' : Int) (ms ns : List Nat) (r c : Nat) (hb : ∀ x ∈ ms, x < 64) (hb2 : ∀ x ∈ ns, x < 64) (hr : r < ms.length) (hr2 : r < ns.length) (hc : c < 60) :
    impl_MeetTables_1.f (r : Int) (c : Int) R C (ms.map (fun (x : Nat) => (x : Int))) R' C' (ns.map (fun (x : Nat) => (x : Int))) = some (mk ms r c && mk ns r c) := by
  unfold impl_MeetTables_1.f
  rw [marked_k R C ms r c hb hr hc]
  simp only [Option.bind_some]
  cases mk ms r c
  · simp
  · rw [if_pos rfl, marked_k R' C' ns r c hb2 hr2 hc]
    simp

theorem cover_of (k : Nat) (R C : Int) (M l : List Int) (h : impl_FreeOrder.f k R C M l = some ([], false) ∧ spec_FreeOrder.f k R C M l = some ([], false)) : impl_CoverOf.f k R C M l = some (0, 0, [], false) ∧ spec_CoverOf.f k R C M l = some (0, 0, [], false) := by
  unfold impl_CoverOf.f spec_CoverOf.f
  rw [h.1, h.2]
  exact ⟨rfl, rfl⟩
theorem cells_less (N : Int) (C : Nat) (ms : List Nat) (l : List Int) (i : Nat) (hi : i < l.length) (h : Cells N C ms l) : Cells N C ms (l.take i ++ l.drop (i + 1)) := by
  have len : (l.take i ++ l.drop (i + 1)).length = l.length - 1 := by
    simp
    omega
  have get : ∀ j, j < l.length - 1 → (l.take i ++ l.drop (i + 1)).getD j 0 = l.getD (if j < i then j else j + 1) 0 := by
    intro j hj
    simp only [List.getD_eq_getElem?_getD]
    by_cases hji : j < i
    · rw [if_pos hji, List.getElem?_append_left (by simp; omega), List.getElem?_take_of_lt hji]
    · rw [if_neg hji, List.getElem?_append_right (by simp; omega), List.getElem?_drop]
      congr 2
      simp
      omega
  refine ⟨fun j hj => ?_, fun j h1 hj => ?_⟩
  · rw [len] at hj
    rw [get j hj]
    exact h.1 _ (by split <;> omega)
  · rw [len] at hj
    rw [get j hj, get (j - 1) (by omega)]
    by_cases hji : j < i
    · rw [if_pos hji, if_pos (by omega)]
      exact h.2 j h1 (by omega)
    · rw [if_neg hji]
      by_cases hj2 : j - 1 < i
      · rw [if_pos hj2]
        have a := h.2 j h1 (by omega)
        have b := h.2 (j + 1) (by omega) (by omega)
        rw [show j + 1 - 1 = j from rfl] at b
        omega
      · rw [if_neg hj2]
        have b := h.2 (j + 1) (by omega) (by omega)
        rw [show j - 1 + 1 = j by omega]
        exact b
theorem FnCovers : laws_FnCovers.Pure := by
  intro l0 l1 _ _ hb0 _ _ hb1
  have b0 := byte_wf l0 hb0
  have b1 := byte_wf l1 hb1
  by_cases hbig : (l0.length : Int) > 1048576
  · refine ⟨1, ?_⟩
    unfold laws_FnCovers.f laws_big.f
    rw [if_pos hbig]
    rfl
  by_cases hbig2 : (l1.length : Int) > (wrap64 (1048576 - (l0.length : Int)))
  · refine ⟨1, ?_⟩
    unfold laws_FnCovers.f laws_big.f
    rw [if_neg hbig, decide_eq_true hbig2]
    rfl
  have hl1 : l1.length ≤ 1048576 := by
    rw [wrap_ok (by omega) (by omega)] at hbig2
    omega
  refine ⟨l1.length + 9000, ?_⟩
  obtain ⟨R, C, M, l, hM, hl, hD⟩ := drawFree_ok l0 (by omega) b0 (l1.length + 9000) (by omega)
  have hD2 : spec_DrawCoverOf.f (l1.length + 9000) l0 = some (R, C, M, l) := by
    unfold spec_DrawCoverOf.f
    rw [hD]
    rfl
  unfold laws_FnCovers.f laws_big.f
  rw [if_neg hbig, decide_eq_false hbig2]
  simp only [Option.bind_some, Bool.false_eq_true, if_false]
  rw [hD2]
  simp only [Option.bind_some]
  have no : impl_FreeOrder.f (l1.length + 9000) R C M l = some ([], false) ∧ spec_FreeOrder.f (l1.length + 9000) R C M l = some ([], false) → ((impl_CoverOf.f (l1.length + 9000) R C M l).bind fun bt404 => ((spec_CoverOf.f (l1.length + 9000) R C M l).bind fun bt411 => ((impl_FreeOrder.f (l1.length + 9000) R C M l).bind fun bt418 => ((spec_FreeOrder.f (l1.length + 9000) R C M l).bind fun bt422 => (if (bt404.2.2.2 != bt411.2.2.2) = true then (laws_FnCovers.j0 (l1.length + 9000) l1 l bt404.2.2.2 true R C M bt404.1 bt404.2.1 bt404.2.2.1) else ((laws_vTable.f (l1.length + 9000) bt404.1 bt404.2.1 bt404.2.2.1 bt411.1 bt411.2.1 bt411.2.2.1).bind fun t426 => (if t426 = true then (if (bt418.2 != bt422.2) = true then (laws_FnCovers.j0 (l1.length + 9000) l1 l bt404.2.2.2 true R C M bt404.1 bt404.2.1 bt404.2.2.1) else ((laws_vSame.f (l1.length + 9000) bt418.1 bt422.1).bind fun t427 => (if t427 = true then (laws_FnCovers.j0 (l1.length + 9000) l1 l bt404.2.2.2 (bt404.2.2.2 != bt418.2) R C M bt404.1 bt404.2.1 bt404.2.2.1) else (laws_FnCovers.j0 (l1.length + 9000) l1 l bt404.2.2.2 true R C M bt404.1 bt404.2.1 bt404.2.2.1)))) else (laws_FnCovers.j0 (l1.length + 9000) l1 l bt404.2.2.2 true R C M bt404.1 bt404.2.1 bt404.2.2.1)))))))) = some true := by
    intro h
    rw [(cover_of _ R C M l h).1, (cover_of _ R C M l h).2, h.1, h.2]
    simp only [Option.bind_some, bne_self_eq_false, Bool.false_eq_true, if_false]
    rw [vTable_k 0 0 [] (by simp) _ (by simp), vSame_k [] (by simp) _ (by simp)]
    simp only [Option.bind_some, if_true]
    rw [laws_FnCovers.j0]
    simp
  cases hT : isTab R C M
  · exact no (free_no R C M l hM hl hT _ (by omega))
  obtain ⟨r, c, ms, rfl, rfl, rfl, h1, h2, h3, h4, h5, h6⟩ := (isTab_iff R C M).1 hT
  have h64 : ∀ x ∈ ms, x < 64 := fun x hx => Nat.lt_of_lt_of_le (h6 x hx) (Nat.pow_le_pow_right (n := 2) (by omega) h4)
  by_cases hc : Cells ((r * c : Nat) : Int) c ms l
  case neg => exact no (free_bad r c ms l hl h2 h3 h4 h5 h64 hT hc _ (by omega))
  obtain ⟨cs, rfl, hcs⟩ := cells_nat r c ms l hc
  have lc : (cs.map (fun (x : Nat) => (x : Int))).length = cs.length := by simp
  have hF := fun k hk => free_yes r c ms cs (by omega) h1 h2 h3 h4 h5 h64 hT hc hcs k hk
  cases h0 : orderFrom r c ms cs r [] with
  | none =>
    rw [h0] at hF
    exact no (hF _ (by omega))
  | some o =>
    clear no
    rw [h0] at hF
    have ol : o.length = r := by
      have := orderFrom_length r c ms cs r [] o h0
      simpa using this
    have olt := orderFrom_lt r c ms cs r [] o (by simp) h0
    have ook : OrdOK c ms cs o := orderFrom_ok r c ms cs r [] o ⟨by simp, by simp⟩ h0
    obtain ⟨f1, f2, f3⟩ := cover_facts r c ms cs o h5 ol olt ook h3 hcs
    have hcov := cover_k r c ms o h5 h2 h4 h6 olt (by omega) (l1.length + 9000) (by omega)
    have n5 : (covN r ms o o.length).length = r := covN_length r ms o _
    have n6 := covN_lt r c ms o h6 o.length
    have n64 : ∀ x ∈ covN r ms o o.length, x < 64 := fun x hx => Nat.lt_of_lt_of_le (n6 x hx) (Nat.pow_le_pow_right (n := 2) (by omega) h4)
    have nT : isTab (r : Int) (c : Int) ((covN r ms o o.length).map (fun (x : Nat) => (x : Int))) = true := (isTab_iff _ _ _).2 ⟨r, c, _, rfl, rfl, rfl, h1, h2, h3, h4, n5, n6⟩
    have hI : impl_CoverOf.f (l1.length + 9000) (r : Int) (c : Int) (ms.map (fun (x : Nat) => (x : Int))) (cs.map (fun (x : Nat) => (x : Int))) = some ((r : Int), (c : Int), (covN r ms o o.length).map (fun (x : Nat) => (x : Int)), true) := by
      unfold impl_CoverOf.f
      rw [(hF _ (by omega)).1]
      simp only [Option.bind_some, Option.isSome_some, if_true, Option.getD_some]
      rw [hcov.1]
      rfl
    have hS : spec_CoverOf.f (l1.length + 9000) (r : Int) (c : Int) (ms.map (fun (x : Nat) => (x : Int))) (cs.map (fun (x : Nat) => (x : Int))) = some ((r : Int), (c : Int), (covN r ms o o.length).map (fun (x : Nat) => (x : Int)), true) := by
      unfold spec_CoverOf.f
      rw [(hF _ (by omega)).2]
      simp only [Option.bind_some, Option.isSome_some, if_true, Option.getD_some]
      rw [hcov.2]
      rfl
    have nl : ((covN r ms o o.length).map (fun (x : Nat) => (x : Int))).length = r := by simp [n5]
    have ml : (ms.map (fun (x : Nat) => (x : Int))).length = r := by simp [h5]
    rw [hI, hS, (hF _ (by omega)).1, (hF _ (by omega)).2]
    simp only [Option.bind_some, Option.isSome_some, Option.getD_some, bne_self_eq_false, Bool.false_eq_true, if_false]
    rw [vTable_k _ _ _ (by omega) _ (by omega), vSame_k _ (by simp; omega) _ (by simp; omega)]
    simp only [Option.bind_some, if_true]
    rw [laws_FnCovers.j0]
    simp only [Bool.false_eq_true, if_false, if_true]
    have eB : ∀ k, 4000 ≤ k → impl_IsBiorder.f k (r : Int) (c : Int) ((covN r ms o o.length).map (fun (x : Nat) => (x : Int))) = some (true, true) := by
      intro k hk
      unfold impl_IsBiorder.f
      rw [IsTable_k _ _ _ (by omega) k (by omega), nT]
      simp only [Option.bind_some, if_true]
      rw [fourCells_k r c _ n5 h2 h4 n64 k (by omega), four0_none r c _ f3]
      rfl
    have hrc : r * (c + 3) ≤ 6 * 9 := Nat.mul_le_mul h2 (by omega)
    have eM : ∀ k, 4000 ≤ k → impl_MeetTables.f k (r : Int) (c : Int) (ms.map (fun (x : Nat) => (x : Int))) (r : Int) (c : Int) ((covN r ms o o.length).map (fun (x : Nat) => (x : Int))) = some ((r : Int), (c : Int), ms.map (fun (x : Nat) => (x : Int)), true) := by
      intro k hk
      unfold impl_MeetTables.f
      rw [IsTable_k _ _ _ (by omega) k (by omega), hT]
      simp only [Option.bind_some, if_true]
      rw [IsTable_k _ _ _ (by omega) k (by omega), nT]
      simp only [Option.bind_some, if_true]
      rw [table_k r c (by omega) (by omega) _ (fun r' c' => mk ms r' c' && mk (covN r ms o o.length) r' c') (fun i j hi hj => meet_1 _ _ _ _ ms _ i j h64 n64 (by omega) (by omega) (by omega)) k (by omega), meet_sub r c ms _ h5 h6 f1]
      rfl
    rw [eB _ (by omega), eM _ (by omega)]
    simp only [Option.bind_some, if_true]
    rw [vTable_k _ _ _ (by omega) _ (by omega)]
    simp only [Option.bind_some, Bool.not_true]
    obtain ⟨K, hK⟩ : ∃ K, l1.length + 8999 = K + 1 := ⟨l1.length + 8998, by omega⟩
    rw [show l1.length + 8999 = K + 1 from hK, laws_FnCovers.j1]
    simp only [Bool.false_eq_true, if_false]
    rw [lc]
    have lr : r * c ≤ 6 * 6 := Nat.mul_le_mul h2 h4
    have main : ∀ (d k i : Nat), i + d = cs.length → l1.length + 4100 + d < k → laws_FnCovers.l0 k l1 (cs.map (fun (x : Nat) => (x : Int))) (cs.map (fun (x : Nat) => (x : Int))) (cs.length : Int) (i : Int) (r : Int) (c : Int) (ms.map (fun (x : Nat) => (x : Int))) (r : Int) (c : Int) ((covN r ms o o.length).map (fun (x : Nat) => (x : Int))) = some true := by
      intro d
      induction d with
      | succ d ih =>
        intro k i hi hk
        obtain ⟨k, rfl⟩ : ∃ m, k = m + 1 := ⟨k - 1, by omega⟩
        have hx := hcs _ (getD_mem cs i (by omega))
        have hrow := cs_row r c cs hcs i (by omega)
        rw [laws_FnCovers.l0, if_pos (by omega), if_pos (by omega), if_pos (by omega), rd_map, vMarked_k _ c _ _ h3 h4 (by omega) (by omega), f2 i (by omega), wrap_ok (by omega) (by omega), show ((i : Int) + 1) = ((i + 1 : Nat) : Int) by omega]
        simp only [Option.bind_some, Bool.false_eq_true, if_false]
        exact ih k (i + 1) (by omega) (by omega)
      | zero =>
        intro k i hi hk
        obtain ⟨k, rfl⟩ : ∃ m, k = m + 1 := ⟨k - 1, by omega⟩
        rw [laws_FnCovers.l0, if_neg (by omega), lc]
        by_cases hcl : (cs.length : Int) > 0
        · rw [if_pos hcl]
          obtain ⟨v, ev, hv⟩ := vNumber_ok l1 hl1 b1 k (by omega)
          obtain ⟨V, rfl⟩ := Int.eq_ofNat_of_zero_le hv
          have hB : V % cs.length < cs.length := Nat.mod_lt _ (by omega)
          have eB : Int.tmod ((V : Nat) : Int) ((cs.length : Nat) : Int) = ((V % cs.length : Nat) : Int) := rfl
          rw [ev]
          simp only [Option.bind_some]
          rw [if_neg (by omega), eB, wrap_ok (by omega) (by omega), show (((V % cs.length : Nat) : Int) + 1) = ((V % cs.length + 1 : Nat) : Int) by omega]
          have t1 : (((V % cs.length : Nat)) : Int).toNat = V % cs.length := by omega
          have t2 : (((V % cs.length + 1 : Nat)) : Int).toNat = V % cs.length + 1 := by omega
          rw [t1, t2, ← List.map_take, ← List.map_drop]
          have c1 : (0 : Int) ≤ ((V % cs.length : Nat) : Int) := Int.natCast_nonneg _
          have c2 : ((V % cs.length : Nat) : Int) ≤ (cs.length : Int) := by omega
          have c3 : (0 : Int) ≤ ((V % cs.length + 1 : Nat) : Int) := Int.natCast_nonneg _
          have c4 : ((V % cs.length + 1 : Nat) : Int) ≤ (cs.length : Int) := by omega
          have c5 : ([] : List Int).length + ((cs.take (V % cs.length)).map (fun (x : Nat) => (x : Int))).length < 17592186044416 := by simp; omega
          have c6 : ((cs.take (V % cs.length)).map (fun (x : Nat) => (x : Int))).length + ((cs.drop (V % cs.length + 1)).map (fun (x : Nat) => (x : Int))).length < 17592186044416 := by simp; omega
          simp only [if_pos c1, if_pos c2, if_pos c3, if_pos c4, Option.bind_some, if_pos c5, List.nil_append]
          rw [if_pos c6]
          have em : (cs.take (V % cs.length)).map (fun (x : Nat) => (x : Int)) ++ (cs.drop (V % cs.length + 1)).map (fun (x : Nat) => (x : Int)) = (cs.take (V % cs.length) ++ cs.drop (V % cs.length + 1)).map (fun (x : Nat) => (x : Int)) := by simp
          have hcells : Cells ((r * c : Nat) : Int) c ms ((cs.take (V % cs.length) ++ cs.drop (V % cs.length + 1)).map (fun (x : Nat) => (x : Int))) := by
            have := cells_less _ c ms _ (V % cs.length) (by omega) hc
            rw [← List.map_take, ← List.map_drop, em] at this
            exact this
          have hsub : ∀ x ∈ cs.take (V % cs.length) ++ cs.drop (V % cs.length + 1), x ∈ cs := by
            intro x hx
            rcases List.mem_append.1 hx with h | h
            · exact List.mem_of_mem_take h
            · exact List.mem_of_mem_drop h
          rw [em, (free_yes r c ms _ (by simp; omega) h1 h2 h3 h4 h5 h64 hT hcells (fun x hx => hcs x (hsub x hx)) k (by omega)).1]
          simp only [Option.bind_some]
          rw [orderFrom_fewer r c ms cs _ o ol olt ook hsub r [] (by simp)]
        · rw [if_neg hcl]
    have hcl40 : cs.length ≤ 40 := by omega
    exact main cs.length K 0 (by omega) (by omega)

end Go.Proofs.Ytpippjgphndjmaa.Pure
