/- ParseTable: the program returns for every text the table that the reference returns; no condition. -/
import Derived.Test.YtikhopopiaanmaaDoorPFnExactParseTablex5
import Derived.Lib.SplitLaws
import Derived.Lib.Strings
namespace Go.Proofs.YtikhopopiaanmaaDoor.Pure
open Go.RowKit Go.Proofs.YtikhopopiaanmaaDoor.PFnExactParseTable Go.Proofs.YtikhopopiaanmaaDoorW.PrintWords Go.Proofs.YtikhopopiaanmaaDoorW.PrintLast Go.Proofs.YtikhopopiaanmaaDoorW.PrintMore Go.Proofs.YtikhopopiaanmaaDoorA Go.Proofs.YtikhopopiaanmaaDoorA Go.Proofs.YtikhopopiaanmaaDoorA Go.Proofs.YtikhopopiaanmaaDoorA
set_option linter.unusedVariables false
set_option linter.unusedSimpArgs false

theorem wrap_ok {x : Int} (h0 : -9223372036854775808 ≤ x) (h1 : x < 9223372036854775808) : wrap64 x = x := by unfold wrap64; omega
theorem wf_bounds {x : Int} (h : (Lit.int .i64 x).wf = true) : -9223372036854775808 ≤ x ∧ x < 9223372036854775808 := by
  have e : IntKind.i64.min ≤ x ∧ x ≤ 9223372036854775807 := by simpa [Lit.wf] using h
  have m : IntKind.i64.min = -9223372036854775808 := by decide
  omega
theorem rd_nat (l : List Int) (i : Nat) : rd l (i : Int) = l.getD i 0 := by simp [rd]

theorem eqIntS_l0 (l : List Int) (hl : l.length ≤ 4611686018427387904) : ∀ (d k i : Nat), i + d = l.length → d < k → laws_eqIntS.l0 k l l (i : Int) = some true := by
  intro d
  induction d with
  | zero =>
    intro k i h hk
    obtain ⟨k, rfl⟩ : ∃ m, k = m + 1 := ⟨k - 1, by omega⟩
    simp only [laws_eqIntS.l0]
    rw [if_neg (by omega)]
  | succ d ih =>
    intro k i h hk
    obtain ⟨k, rfl⟩ : ∃ m, k = m + 1 := ⟨k - 1, by omega⟩
    simp only [laws_eqIntS.l0]
    rw [if_pos (by omega), if_pos (by omega), if_pos (by omega), if_true, wrap_ok (by omega) (by omega)]
    have e : ((i : Int) + 1) = ((i + 1 : Nat) : Int) := by omega
    rw [e]
    exact ih k (i + 1) (by omega) (by omega)
theorem eqIntS_k (l : List Int) (hl : l.length ≤ 4611686018427387904) (k : Nat) (hk : l.length < k) : laws_eqIntS.f k l l = some true := by
  unfold laws_eqIntS.f
  rw [if_pos rfl]
  exact eqIntS_l0 l hl l.length k 0 (by omega) hk
theorem eqIntS_ev (l : List Int) (hl : l.length ≤ 4611686018427387904) : Ev (fun k => laws_eqIntS.f k l l) true := ⟨l.length + 1, fun k hk => eqIntS_k l hl k (by omega)⟩

theorem within_eq (a b c : Int) : impl_within.f a b c = some (decide (b ≤ a ∧ a ≤ c)) := by
  unfold impl_within.f
  by_cases h : a ≥ b <;> simp [h] <;> omega
theorem l1In_eq (a b c : Int) : spec_l1In.f a b c = some (decide (b ≤ a ∧ a ≤ c)) := by
  unfold spec_l1In.f
  by_cases h : a ≥ b <;> simp [h] <;> omega

def allIn (l : List Int) (a b : Int) : Bool := l.all fun x => decide (a ≤ x ∧ x ≤ b)
theorem getD_drop (l : List Int) (i : Nat) (h : i < l.length) : l.drop i = l.getD i 0 :: l.drop (i + 1) := by
  rw [List.drop_eq_getElem_cons h]
  simp [h]
theorem allWithin_l0 (l : List Int) (a b : Int) (hl : l.length ≤ 4611686018427387904) : ∀ (d k i : Nat), i + d = l.length → d < k → impl_allWithin.l0 k a b l (l.length : Int) (i : Int) = some (allIn (l.drop i) a b) := by
  intro d
  induction d with
  | zero =>
    intro k i h hk
    obtain ⟨k, rfl⟩ : ∃ m, k = m + 1 := ⟨k - 1, by omega⟩
    simp only [impl_allWithin.l0]
    rw [if_neg (by omega), List.drop_eq_nil_of_le (by omega)]
    rfl
  | succ d ih =>
    intro k i h hk
    obtain ⟨k, rfl⟩ : ∃ m, k = m + 1 := ⟨k - 1, by omega⟩
    simp only [impl_allWithin.l0]
    rw [if_pos (by omega), if_pos (by omega), if_pos (by omega), wrap_ok (by omega) (by omega), within_eq, getD_drop l i (by omega), rd_nat]
    have e : ((i : Int) + 1) = ((i + 1 : Nat) : Int) := by omega
    rw [e, ih k (i + 1) (by omega) (by omega)]
    simp only [Option.bind_some, allIn, List.all_cons]
    cases decide (a ≤ l.getD i 0 ∧ l.getD i 0 ≤ b) <;> simp
theorem allWithin_k (l : List Int) (a b : Int) (hl : l.length ≤ 4611686018427387904) (k : Nat) (hk : l.length < k) : impl_allWithin.f k l a b = some (allIn l a b) := by
  unfold impl_allWithin.f
  exact allWithin_l0 l a b hl l.length k 0 (by omega) hk
theorem l1All_l0 (l : List Int) (a b : Int) (hl : l.length ≤ 4611686018427387904) : ∀ (d k i : Nat), i + d = l.length → d < k → spec_l1All.l0 k a b l (l.length : Int) (i : Int) = some (allIn (l.drop i) a b) := by
  intro d
  induction d with
  | zero =>
    intro k i h hk
    obtain ⟨k, rfl⟩ : ∃ m, k = m + 1 := ⟨k - 1, by omega⟩
    simp only [spec_l1All.l0]
    rw [if_neg (by omega), List.drop_eq_nil_of_le (by omega)]
    rfl
  | succ d ih =>
    intro k i h hk
    obtain ⟨k, rfl⟩ : ∃ m, k = m + 1 := ⟨k - 1, by omega⟩
    simp only [spec_l1All.l0]
    rw [if_pos (by omega), if_pos (by omega), if_pos (by omega), wrap_ok (by omega) (by omega), l1In_eq, getD_drop l i (by omega), rd_nat]
    have e : ((i : Int) + 1) = ((i + 1 : Nat) : Int) := by omega
    rw [e, ih k (i + 1) (by omega) (by omega)]
    simp only [Option.bind_some, allIn, List.all_cons]
    cases decide (a ≤ l.getD i 0 ∧ l.getD i 0 ≤ b) <;> simp
theorem l1All_k (l : List Int) (a b : Int) (hl : l.length ≤ 4611686018427387904) (k : Nat) (hk : l.length < k) : spec_l1All.f k l a b = some (allIn l a b) := by
  unfold spec_l1All.f
  exact l1All_l0 l a b hl l.length k 0 (by omega) hk

/-- A table, told as data. -/
def isTab (R C : Int) (M : List Int) : Bool := decide (1 ≤ R ∧ R ≤ 6) && decide (1 ≤ C ∧ C ≤ 6) && decide ((M.length : Int) = R) && allIn M 0 (wrap64 (shl .i64 1 C - 1))
theorem IsTable_k (R C : Int) (M : List Int) (hM : M.length ≤ 4611686018427387904) (k : Nat) (hk : M.length < k) : impl_IsTable.f k R C M = some (isTab R C M) := by
  unfold impl_IsTable.f isTab
  simp only [within_eq, Option.bind_some]
  by_cases h1 : 1 ≤ R ∧ R ≤ 6
  · by_cases h2 : 1 ≤ C ∧ C ≤ 6
    · by_cases h3 : (M.length : Int) = R
      · rw [if_pos h3, if_pos (show 0 ≤ C by omega), allWithin_k M _ _ hM k hk]
        simp [h1, h2, h3]
      · rw [if_neg h3]
        simp [h1, h2, h3]
    · simp [h1, h2]
  · simp [h1]
theorem feGood_k (R C : Int) (M : List Int) (hM : M.length ≤ 4611686018427387904) (k : Nat) (hk : M.length < k) : spec_feGood.f k R C M = some (isTab R C M) := by
  unfold spec_feGood.f isTab
  simp only [l1In_eq, Option.bind_some]
  by_cases h1 : 1 ≤ R ∧ R ≤ 6
  · by_cases h2 : 1 ≤ C ∧ C ≤ 6
    · by_cases h3 : (M.length : Int) = R
      · rw [if_pos h3, if_pos (show 0 ≤ C by omega), l1All_k M _ _ hM k hk]
        simp [h1, h2, h3]
      · rw [if_neg h3]
        simp [h1, h2, h3]
    · simp [h1, h2]
  · simp [h1]

theorem eqTable_k (R C : Int) (M : List Int) (hM : M.length ≤ 1048576) (k : Nat) (hk : M.length < k) : laws_eqTable.f k R C M R C M = some true := by
  unfold laws_eqTable.f
  rw [if_pos rfl, if_pos rfl, eqIntS_k M (by omega) k hk]
  rfl

/-! Sets as numbers. -/
def andn (a b : Nat) : Nat := a ^^^ (a &&& b)
theorem andn_bit (a b i : Nat) : (andn a b).testBit i = (a.testBit i && !b.testBit i) := by
  unfold andn
  rw [Nat.testBit_xor, Nat.testBit_and]
  cases a.testBit i <;> cases b.testBit i <;> rfl
theorem wrap_i64_nat (n : Nat) (h : n < 2 ^ 63) : IntKind.i64.wrap (n : Int) = (n : Int) := by
  rw [IntKind.wrap_i64]
  have : (n : Int) < 9223372036854775808 := by omega
  omega
theorem ofInt_toNat (n : Nat) (h : n < 2 ^ 63) : (BitVec.ofInt 64 (n : Int)).toNat = n := by
  rw [BitVec.ofInt_natCast, BitVec.toNat_ofNat, Nat.mod_eq_of_lt (by omega)]
theorem and_nat (a b : Nat) (ha : a < 2 ^ 63) (hb : b < 2 ^ 63) : Go.bits .and .i64 (a : Int) (b : Int) = ((a &&& b : Nat) : Int) := by
  unfold Go.bits
  show IntKind.i64.wrap ((BitVec.ofInt 64 (a : Int) &&& BitVec.ofInt 64 (b : Int)).toNat : Int) = _
  rw [BitVec.toNat_and, ofInt_toNat a ha, ofInt_toNat b hb]
  exact wrap_i64_nat _ (Nat.lt_of_le_of_lt Nat.and_le_left ha)
theorem or_nat (a b : Nat) (ha : a < 2 ^ 63) (hb : b < 2 ^ 63) : Go.bits .or .i64 (a : Int) (b : Int) = ((a ||| b : Nat) : Int) := by
  unfold Go.bits
  show IntKind.i64.wrap ((BitVec.ofInt 64 (a : Int) ||| BitVec.ofInt 64 (b : Int)).toNat : Int) = _
  rw [BitVec.toNat_or, ofInt_toNat a ha, ofInt_toNat b hb]
  exact wrap_i64_nat _ (Nat.or_lt_two_pow ha hb)
theorem xor_nat (a b : Nat) (ha : a < 2 ^ 63) (hb : b < 2 ^ 63) : Go.bits .xor .i64 (a : Int) (b : Int) = ((a ^^^ b : Nat) : Int) := by
  unfold Go.bits
  show IntKind.i64.wrap ((BitVec.ofInt 64 (a : Int) ^^^ BitVec.ofInt 64 (b : Int)).toNat : Int) = _
  rw [BitVec.toNat_xor, ofInt_toNat a ha, ofInt_toNat b hb]
  exact wrap_i64_nat _ (Nat.xor_lt_two_pow ha hb)
theorem andn_le (a b : Nat) : andn a b ≤ a := Nat.le_of_testBit fun i h => by
  rw [andn_bit] at h
  cases h1 : a.testBit i
  · simp [h1] at h
  · rfl
theorem andNot_nat (a b : Nat) (ha : a < 2 ^ 63) (hb : b < 2 ^ 63) : Go.bits .andNot .i64 (a : Int) (b : Int) = ((andn a b : Nat) : Int) := by
  unfold Go.bits
  show IntKind.i64.wrap ((BitVec.ofInt 64 (a : Int) &&& ~~~ BitVec.ofInt 64 (b : Int)).toNat : Int) = _
  have e : (BitVec.ofInt 64 (a : Int) &&& ~~~ BitVec.ofInt 64 (b : Int)).toNat = andn a b := by
    apply Nat.eq_of_testBit_eq
    intro i
    rw [andn_bit, BitVec.toNat_and, Nat.testBit_and, ofInt_toNat a ha, BitVec.testBit_toNat, BitVec.getLsbD_not, BitVec.ofInt_natCast, BitVec.getLsbD_ofNat]
    by_cases hi : i < 64
    · rw [decide_eq_true hi]
      simp only [Bool.true_and]
    · have : a.testBit i = false := Nat.testBit_lt_two_pow (Nat.lt_of_lt_of_le ha (Nat.pow_le_pow_right (by omega) (by omega)))
      simp [this]
  rw [e]
  exact wrap_i64_nat _ (Nat.lt_of_le_of_lt (andn_le a b) ha)
theorem andn_zero (a b : Nat) : andn a b = 0 ↔ ∀ i, a.testBit i = true → b.testBit i = true := by
  constructor
  · intro h i hi
    have := andn_bit a b i
    rw [h, hi] at this
    cases hb : b.testBit i
    · simp [hb] at this
    · rfl
  · intro h
    apply Nat.eq_of_testBit_eq
    intro i
    rw [andn_bit]
    cases ha : a.testBit i
    · simp
    · simp [h i ha]
theorem andn_zero_le {a b : Nat} (h : andn a b = 0) : a ≤ b := Nat.le_of_testBit fun i hi => (andn_zero a b).1 h i hi
theorem andNot_le {p i : Int} (h0 : 0 ≤ p) (h1 : 0 ≤ i) (hp : p < 9223372036854775808) (hi : i < 9223372036854775808) (h : Go.bits .andNot .i64 p i = 0) : p ≤ i := by
  obtain ⟨a, rfl⟩ := Int.eq_ofNat_of_zero_le h0
  obtain ⟨b, rfl⟩ := Int.eq_ofNat_of_zero_le h1
  rw [andNot_nat a b (by omega) (by omega)] at h
  have := andn_zero_le (a := a) (b := b) (by omega)
  omega

/-- The set of the j < n for which q tells true. -/
def bitsum (q : Nat → Bool) : Nat → Nat
  | 0 => 0
  | j + 1 => bitsum q j ||| (if q j then 2 ^ j else 0)
theorem bitsum_lt (q : Nat → Bool) (n : Nat) : bitsum q n < 2 ^ n := by
  induction n with
  | zero => simp [bitsum]
  | succ n ih =>
    rw [bitsum]
    apply Nat.or_lt_two_pow
    · exact Nat.lt_of_lt_of_le ih (Nat.pow_le_pow_right (by omega) (by omega))
    · split
      · exact Nat.pow_lt_pow_right (by omega) (by omega)
      · exact Nat.two_pow_pos _
theorem bitsum_bit (q : Nat → Bool) (n i : Nat) : (bitsum q n).testBit i = (decide (i < n) && q i) := by
  induction n with
  | zero => simp [bitsum]
  | succ n ih =>
    rw [bitsum, Nat.testBit_or, ih]
    by_cases e : i = n
    · subst e
      cases h : q i <;> simp [Nat.testBit_two_pow_self]
    · have : (if q n then 2 ^ n else 0).testBit i = false := by
        split
        · rw [Nat.testBit_two_pow_of_ne (by omega)]
        · simp
      rw [this]
      by_cases h : i < n
      · simp [h, show i < n + 1 by omega]
      · simp [h, show ¬ i < n + 1 by omega]
theorem bitsum_congr {q q' : Nat → Bool} (n : Nat) (h : ∀ i, i < n → q i = q' i) : bitsum q n = bitsum q' n := by
  induction n with
  | zero => rfl
  | succ n ih => rw [bitsum, bitsum, ih (fun i hi => h i (by omega)), h n (by omega)]
theorem shl_one (j : Nat) (h : j < 62) : shl .i64 1 (j : Int) = ((2 ^ j : Nat) : Int) := by
  unfold shl
  have e : min (j : Int).toNat IntKind.i64.bits = j := by
    show min (j : Int).toNat 64 = j
    omega
  rw [e]
  have e2 : (1 : Int) * 2 ^ j = ((2 ^ j : Nat) : Int) := by simp
  rw [e2]
  exact wrap_i64_nat _ (Nat.pow_lt_pow_right (by omega) (by omega))
theorem or_shl (a j : Nat) (ha : a < 2 ^ 62) (hj : j < 62) : Go.bits .or .i64 (a : Int) (shl .i64 1 (j : Int)) = ((a ||| 2 ^ j : Nat) : Int) := by
  rw [shl_one j hj]
  exact or_nat a _ (Nat.lt_of_lt_of_le ha (by decide)) (Nat.pow_lt_pow_right (by omega) (by omega))
/-- The rows' sets. -/
def relList (R C : Nat) (p : Nat → Nat → Bool) : List Int := (List.range R).map fun i => ((bitsum (p i) C : Nat) : Int)
theorem relList_length (R C : Nat) (p : Nat → Nat → Bool) : (relList R C p).length = R := by simp [relList]
theorem relList_congr {R C : Nat} {p p' : Nat → Nat → Bool} (h : ∀ i j, i < R → j < C → p i j = p' i j) : relList R C p = relList R C p' := by
  unfold relList
  apply List.map_congr_left
  intro i hi
  rw [bitsum_congr C (fun j hj => h i j (by simpa using hi) hj)]
/-- A list that is being filled: the first i rows are whole, the row i has the columns < j, the others are 0. -/
def part (R C : Nat) (p : Nat → Nat → Bool) (i j : Nat) : List Int := (List.range R).map fun r => if r < i then ((bitsum (p r) C : Nat) : Int) else if r = i then ((bitsum (p r) j : Nat) : Int) else 0
theorem part_length (R C : Nat) (p : Nat → Nat → Bool) (i j : Nat) : (part R C p i j).length = R := by simp [part]
theorem part_start (R C : Nat) (p : Nat → Nat → Bool) : List.replicate R 0 = part R C p 0 0 := by
  apply List.ext_getElem?
  intro r
  by_cases h : r < R
  · simp [part, h, List.getElem?_replicate, bitsum]
  · rw [List.getElem?_eq_none (by simp; omega), List.getElem?_eq_none (by rw [part_length]; omega)]
theorem part_next (R C : Nat) (p : Nat → Nat → Bool) (i : Nat) : part R C p i C = part R C p (i + 1) 0 := by
  apply List.ext_getElem?
  intro r
  by_cases h : r < R
  · simp only [part, List.getElem?_map, List.getElem?_range h, Option.map_some]
    by_cases h1 : r < i
    · simp [h1, show r < i + 1 by omega]
    · by_cases h2 : r = i
      · simp [h2]
      · simp [h1, h2, show ¬ r < i + 1 by omega, bitsum]
  · rw [List.getElem?_eq_none (by rw [part_length]; omega), List.getElem?_eq_none (by rw [part_length]; omega)]
theorem part_end (R C : Nat) (p : Nat → Nat → Bool) : part R C p R 0 = relList R C p := by
  unfold part relList
  apply List.map_congr_left
  intro r hr
  rw [if_pos (by simpa using hr)]
theorem part_rd (R C : Nat) (p : Nat → Nat → Bool) (i j : Nat) (hi : i < R) : rd (part R C p i j) (i : Int) = ((bitsum (p i) j : Nat) : Int) := by
  rw [rd_nat]
  simp [part, List.getD_eq_getElem?_getD, hi]
theorem part_set (R C : Nat) (p : Nat → Nat → Bool) (i j : Nat) (hi : i < R) (hp : p i j = true) : (part R C p i j).set i ((bitsum (p i) j ||| 2 ^ j : Nat) : Int) = part R C p i (j + 1) := by
  apply List.ext_getElem?
  intro r
  by_cases h : r < R
  · rw [List.getElem?_set]
    simp only [part, List.getElem?_map, List.getElem?_range h, Option.map_some, List.length_map, List.length_range]
    by_cases e : i = r
    · subst e
      simp [h, bitsum, hp]
    · rw [if_neg e]
      simp [show ¬ r = i from fun h => e h.symm]
  · rw [List.getElem?_eq_none (by simp [part_length]; omega), List.getElem?_eq_none (by rw [part_length]; omega)]
theorem part_skip (R C : Nat) (p : Nat → Nat → Bool) (i j : Nat) (hp : p i j = false) : part R C p i j = part R C p i (j + 1) := by
  unfold part
  apply List.map_congr_left
  intro r _
  by_cases h1 : r < i
  · simp [h1]
  · by_cases h2 : r = i
    · subst h2
      simp [bitsum, hp]
    · simp [h1, h2]

theorem table_l0 (R C : Nat) (hR : R ≤ 60) (hC : C ≤ 60) (is : Int → Int → Option Bool) (p : Nat → Nat → Bool) (h : ∀ i j : Nat, i < R → j < C → is i j = some (p i j)) :
    ∀ (d k i : Nat), i + d = R → d * (C + 3) < k → impl_table.l0 k (C : Int) is (R : Int) (i : Int) (R : Int) (C : Int) (part R C p i 0) = some ((R : Int), (C : Int), relList R C p) := by
  intro d
  induction d with
  | zero =>
    intro k i hi hk
    obtain ⟨k, rfl⟩ : ∃ m, k = m + 1 := ⟨k - 1, by omega⟩
    simp only [impl_table.l0]
    have e : i = R := by omega
    subst e
    rw [if_neg (by omega), part_end]
  | succ d ih =>
    intro k i hi hk
    rw [Nat.succ_mul] at hk
    obtain ⟨k, rfl⟩ : ∃ m, k = m + 1 := ⟨k - 1, by omega⟩
    simp only [impl_table.l0]
    rw [if_pos (by omega)]
    have inner : ∀ (e k j : Nat), j + e = C → d * (C + 3) + 1 + e < k → impl_table.l1 k (C : Int) is (i : Int) (R : Int) (i : Int) (C : Int) (j : Int) (R : Int) (C : Int) (part R C p i j) = some ((R : Int), (C : Int), relList R C p) := by
      intro e
      induction e with
      | zero =>
        intro k j hj hk
        obtain ⟨k, rfl⟩ : ∃ m, k = m + 1 := ⟨k - 1, by omega⟩
        simp only [impl_table.l1]
        have e1 : ((i : Int) + 1) = ((i + 1 : Nat) : Int) := by omega
        have e2 : j = C := by omega
        subst e2
        rw [if_neg (by omega), wrap_ok (by omega) (by omega), e1, part_next]
        exact ih k (i + 1) (by omega) (by omega)
      | succ e ihe =>
        intro k j hj hk
        obtain ⟨k, rfl⟩ : ∃ m, k = m + 1 := ⟨k - 1, by omega⟩
        simp only [impl_table.l1]
        have e1 : ((j : Int) + 1) = ((j + 1 : Nat) : Int) := by omega
        have e3 : (i : Int).toNat = i := by omega
        rw [if_pos (by omega), h i j (by omega) (by omega), wrap_ok (by omega) (by omega), e1, e3]
        simp only [Option.bind_some]
        cases hp : p i j
        · rw [if_neg (by simp), part_skip R C p i j hp]
          exact ihe k (j + 1) (by omega) (by omega)
        · rw [if_pos rfl, if_pos (by omega), if_pos (by rw [part_length]; omega), if_pos (by omega), part_rd R C p i j (by omega), or_shl _ j (Nat.lt_of_lt_of_le (bitsum_lt (p i) j) (Nat.pow_le_pow_right (by omega) (by omega))) (by omega), part_set R C p i j (by omega) hp]
          exact ihe k (j + 1) (by omega) (by omega)
    exact inner C k 0 (by omega) (by omega)
/-- The table of what is told of each cell. -/
theorem table_k (R C : Nat) (hR : R ≤ 60) (hC : C ≤ 60) (is : Int → Int → Option Bool) (p : Nat → Nat → Bool) (h : ∀ i j : Nat, i < R → j < C → is i j = some (p i j)) (k : Nat) (hk : R * (C + 3) < k) :
    impl_table.f k (R : Int) (C : Int) is = some ((R : Int), (C : Int), relList R C p) := by
  unfold impl_table.f
  rw [if_pos (by omega), if_pos (by omega)]
  have e : ((R : Int)).toNat = R := by omega
  rw [e, part_start R C p]
  exact table_l0 R C hR hC is p h R k 0 (by omega) hk

/-- The numbers a, a + 1, .. -/
def iota (a : Int) (n : Nat) : List Int := (List.range n).map fun (j : Nat) => a + (j : Int)
theorem iota_length (a : Int) (n : Nat) : (iota a n).length = n := by simp [iota]
theorem markIntS_l0 (a : Int) (h0 : 0 ≤ a) : ∀ (d k i : Nat) (l : List Int), i + d = l.length → d < k → a + l.length < 4611686018427387904 → (∀ j, j < i → l[j]? = some (a + (j : Int))) →
    laws_markIntS.l0 k l (a + (i : Int)) (i : Int) = some (a + (l.length : Int), iota a l.length) := by
  intro d
  induction d with
  | zero =>
    intro k i l h hk ha hj
    obtain ⟨k, rfl⟩ : ∃ m, k = m + 1 := ⟨k - 1, by omega⟩
    simp only [laws_markIntS.l0]
    rw [if_neg (by omega)]
    have e : i = l.length := by omega
    subst e
    have e2 : l = iota a l.length := by
      apply List.ext_getElem?
      intro j
      by_cases hj2 : j < l.length
      · rw [hj j hj2]
        simp [iota, hj2]
      · rw [List.getElem?_eq_none (by omega), List.getElem?_eq_none (by rw [iota_length]; omega)]
    rw [← e2]
  | succ d ih =>
    intro k i l h hk ha hj
    obtain ⟨k, rfl⟩ : ∃ m, k = m + 1 := ⟨k - 1, by omega⟩
    simp only [laws_markIntS.l0]
    rw [if_pos (by omega), if_pos (by omega), wrap_ok (by omega) (by omega), wrap_ok (by omega) (by omega)]
    have e1 : ((i : Int) + 1) = ((i + 1 : Nat) : Int) := by omega
    have e2 : (a + (i : Int) + 1) = a + ((i + 1 : Nat) : Int) := by omega
    have e3 : (i : Int).toNat = i := by omega
    rw [e1, e2, e3]
    have := ih k (i + 1) (l.set i (a + (i : Int))) (by simp; omega) (by omega) (by simpa using ha) (by
      intro j hji
      rw [List.getElem?_set]
      by_cases e : i = j
      · subst e
        rw [if_pos rfl, if_pos (by omega)]
      · rw [if_neg e]
        exact hj j (by omega))
    simpa using this
theorem markIntS_k (l : List Int) (a : Int) (h0 : 0 ≤ a) (ha : a + l.length < 4611686018427387904) (k : Nat) (hk : l.length < k) : laws_markIntS.f k l a = some (a + (l.length : Int), iota a l.length) := by
  unfold laws_markIntS.f
  have := markIntS_l0 a h0 l.length k 0 l (by omega) hk ha (by intro j hj; omega)
  simpa using this
theorem heldIntS_l0 (a : Int) (n : Nat) (h0 : 0 ≤ a) (ha : a + n < 4611686018427387904) : ∀ (d k i : Nat), i + d = n → d < k → laws_heldIntS.l0 k (iota a n) (a + (i : Int)) (i : Int) = some (a + (n : Int)) := by
  intro d
  induction d with
  | zero =>
    intro k i h hk
    obtain ⟨k, rfl⟩ : ∃ m, k = m + 1 := ⟨k - 1, by omega⟩
    simp only [laws_heldIntS.l0, iota_length]
    rw [if_neg (by omega)]
    congr 1
    omega
  | succ d ih =>
    intro k i h hk
    obtain ⟨k, rfl⟩ : ∃ m, k = m + 1 := ⟨k - 1, by omega⟩
    simp only [laws_heldIntS.l0, iota_length]
    have e4 : rd (iota a n) (i : Int) = a + (i : Int) := by
      rw [rd_nat]
      simp [iota, List.getD_eq_getElem?_getD, show i < n by omega]
    rw [if_pos (by omega), if_pos (by omega), if_pos e4, wrap_ok (by omega) (by omega), wrap_ok (by omega) (by omega)]
    have e1 : ((i : Int) + 1) = ((i + 1 : Nat) : Int) := by omega
    have e2 : (a + (i : Int) + 1) = a + ((i + 1 : Nat) : Int) := by omega
    rw [e1, e2]
    exact ih k (i + 1) (by omega) (by omega)
theorem heldIntS_k (a : Int) (n : Nat) (h0 : 0 ≤ a) (ha : a + n < 4611686018427387904) (k : Nat) (hk : n < k) : laws_heldIntS.f k (iota a n) a = some (a + (n : Int)) := by
  unfold laws_heldIntS.f
  have := heldIntS_l0 a n h0 ha n k 0 (by omega) hk
  simpa using this
theorem one_add_nonneg (m : Nat) : ¬ (1 + (m : Int) < 0) := by omega

theorem markTable_k (R C : Int) (l : List Int) (hl : l.length ≤ 1048576) (k : Nat) (hk : l.length < k) : laws_markTable.f k R C l 1 = some (1 + (l.length : Int), iota 1 l.length) := by
  unfold laws_markTable.f
  rw [markIntS_k l 1 (by omega) (by omega) k hk]
  rfl
theorem heldTable_k (R C : Int) (m : Nat) (hl : m ≤ 1048576) (k : Nat) (hk : m < k) : laws_heldTable.f k R C (iota 1 m) 1 = some (1 + (m : Int)) := by
  unfold laws_heldTable.f
  rw [heldIntS_k 1 m (by omega) (by omega) k hk]
  simp only [Option.bind_some]
  rw [if_neg (by omega)]

/-- The columns of a table's marks, as a number. -/
theorem allIn_iff (l : List Int) (a b : Int) : allIn l a b = true ↔ ∀ x ∈ l, a ≤ x ∧ x ≤ b := by
  unfold allIn
  rw [List.all_eq_true]
  simp
/-- What a table is: its rows, its columns, and each row's marks as a number. -/
theorem isTab_iff (R C : Int) (M : List Int) : isTab R C M = true ↔ ∃ (r c : Nat) (ms : List Nat), R = (r : Int) ∧ C = (c : Int) ∧ M = ms.map (fun (x : Nat) => (x : Int)) ∧ 1 ≤ r ∧ r ≤ 6 ∧ 1 ≤ c ∧ c ≤ 6 ∧ ms.length = r ∧ ∀ x ∈ ms, x < 2 ^ c := by
  unfold isTab
  simp only [Bool.and_eq_true, decide_eq_true_eq, allIn_iff]
  constructor
  · rintro ⟨⟨⟨h1, h2⟩, h3⟩, h4⟩
    have ec : C = ((C.toNat : Nat) : Int) := by omega
    have e5 : wrap64 (shl .i64 1 C - 1) = ((2 ^ C.toNat - 1 : Nat) : Int) := by
      rw [ec, shl_one C.toNat (by omega)]
      have hp : 0 < 2 ^ C.toNat := Nat.two_pow_pos _
      have hq : 2 ^ C.toNat ≤ 2 ^ 6 := Nat.pow_le_pow_right (by omega) (by omega)
      have e6 : (((C.toNat : Nat) : Int)).toNat = C.toNat := by omega
      rw [e6, wrap_ok (by omega) (by omega)]
      omega
    rw [e5] at h4
    refine ⟨R.toNat, C.toNat, M.map Int.toNat, by omega, ec, ?_, by omega, by omega, by omega, by omega, by simp; omega, ?_⟩
    · rw [List.map_map]
      conv => lhs; rw [← List.map_id M]
      apply List.map_congr_left
      intro x hx
      have := h4 x hx
      show x = ((x.toNat : Nat) : Int)
      omega
    · intro x hx
      obtain ⟨y, hy, rfl⟩ := List.mem_map.1 hx
      have := h4 y hy
      have hp : 0 < 2 ^ C.toNat := Nat.two_pow_pos _
      omega
  · rintro ⟨r, c, ms, rfl, rfl, rfl, h1, h2, h3, h4, h5, h6⟩
    have hp : 0 < 2 ^ c := Nat.two_pow_pos _
    have hq : 2 ^ c ≤ 2 ^ 6 := Nat.pow_le_pow_right (by omega) (by omega)
    have e5 : wrap64 (shl .i64 1 (c : Int) - 1) = ((2 ^ c - 1 : Nat) : Int) := by
      rw [shl_one c (by omega), wrap_ok (by omega) (by omega)]
      omega
    refine ⟨⟨⟨by omega, by omega⟩, by simp; omega⟩, ?_⟩
    intro x hx
    obtain ⟨y, hy, rfl⟩ := List.mem_map.1 hx
    have := h6 y hy
    rw [e5]
    omega
/-- Is a row marked in a column? -/
def mk (ms : List Nat) (r c : Nat) : Bool := (ms.getD r 0).testBit c
theorem rd_map (ms : List Nat) (i : Nat) : rd (ms.map (fun (x : Nat) => (x : Int))) (i : Int) = ((ms.getD i 0 : Nat) : Int) := by
  rw [rd_nat]
  simp only [List.getD_eq_getElem?_getD, List.getElem?_map]
  cases ms[i]? <;> simp
theorem getD_lt {ms : List Nat} {b : Nat} (hb : 0 < b) (h : ∀ x ∈ ms, x < b) (i : Nat) : ms.getD i 0 < b := by
  rw [List.getD_eq_getElem?_getD]
  cases hx : ms[i]? with
  | none => simpa using hb
  | some x => exact h x (List.mem_of_getElem? hx)
/-- The bit of a number, as Go asks it. -/
theorem shr_nat (x c : Nat) (hc : c < 64) : shr .i64 (x : Int) (c : Int) = ((x / 2 ^ c : Nat) : Int) := by
  unfold shr
  have e : min (c : Int).toNat IntKind.i64.bits = c := by
    show min (c : Int).toNat 64 = c
    omega
  rw [e]
  simp
theorem bit_and (x c : Nat) (hx : x < 2 ^ 63) (hc : c < 64) : (Go.bits .and .i64 (shr .i64 (x : Int) (c : Int)) 1 == 1) = x.testBit c := by
  rw [shr_nat x c hc]
  have h1 : x / 2 ^ c < 2 ^ 63 := Nat.lt_of_le_of_lt (Nat.div_le_self _ _) hx
  have e : Go.bits .and .i64 ((x / 2 ^ c : Nat) : Int) 1 = ((x / 2 ^ c &&& 1 : Nat) : Int) := and_nat _ 1 h1 (by decide)
  rw [e, Nat.and_one_is_mod]
  have e2 : x.testBit c = decide (x / 2 ^ c % 2 = 1) := Nat.testBit_eq_decide_div_mod_eq
  rw [e2]
  by_cases h : x / 2 ^ c % 2 = 1
  · simp [h]
  · have : x / 2 ^ c % 2 = 0 := by omega
    simp [this]
theorem marked_k (R C : Int) (ms : List Nat) (r c : Nat) (hb : ∀ x ∈ ms, x < 64) (hr : r < ms.length) (hc : c < 60) : impl_Table_marked.f R C (ms.map (fun (x : Nat) => (x : Int))) (r : Int) (c : Int) = some (mk ms r c) := by
  unfold impl_Table_marked.f mk
  have := getD_lt (b := 64) (by omega) hb r
  rw [if_pos (by omega), if_pos (by simpa using hr), if_pos (by omega), rd_map, bit_and _ c (by omega) (by omega)]

theorem wrap_small (n : Nat) (h : n < 1000) : wrap64 (n : Int) = (n : Int) := wrap_ok (by omega) (by omega)

theorem tmod_nat (n : Nat) : Int.tmod (n : Int) 2 = ((n % 2 : Nat) : Int) := by
  rw [Int.tmod_eq_emod_of_nonneg (by omega)]
  omega
theorem orHas_k (x i : Nat) (hi : i < 64) : spec_orHas.f (x : Int) (i : Int) = some (x.testBit i) := by
  unfold spec_orHas.f
  rw [if_pos (by omega), shr_nat x i hi, tmod_nat]
  have e2 : x.testBit i = decide (x / 2 ^ i % 2 = 1) := Nat.testBit_eq_decide_div_mod_eq
  rw [e2]
  congr 1
  by_cases h : x / 2 ^ i % 2 = 1
  · simp [h]
  · have : x / 2 ^ i % 2 = 0 := by omega
    simp [this]

theorem ba_push (l : List UInt8) (b : UInt8) : ((⟨l.toArray⟩ : ByteArray) ++ (⟨#[b]⟩ : ByteArray)) = ⟨(l ++ [b]).toArray⟩ := by
  apply ByteArray.ext
  simp [ByteArray.data_append]
theorem ba_size (l : List UInt8) : (⟨l.toArray⟩ : ByteArray).size = l.length := by simp [ByteArray.size]
/-- The digits of a row, in the columns before j. -/
def rowB (ms : List Nat) (r j : Nat) : List UInt8 := (List.range j).map fun c => if mk ms r c = true then 49 else 48
theorem rowB_length (ms : List Nat) (r j : Nat) : (rowB ms r j).length = j := by simp [rowB]
theorem rowB_succ (ms : List Nat) (r j : Nat) : rowB ms r (j + 1) = rowB ms r j ++ [if mk ms r j = true then 49 else 48] := by
  unfold rowB
  rw [List.range_succ, List.map_append]
  rfl
/-- The text of the rows before i. -/
def txt (C : Nat) (ms : List Nat) : Nat → List UInt8
  | 0 => []
  | i + 1 => (if 0 < i then txt C ms i ++ [47] else txt C ms i) ++ rowB ms i C
theorem txt_length (C : Nat) (ms : List Nat) (i : Nat) : (txt C ms i).length ≤ i * (C + 1) := by
  induction i with
  | zero => simp [txt]
  | succ i ih =>
    rw [txt, Nat.succ_mul, List.length_append, rowB_length]
    split
    · rw [List.length_append]
      simp
      omega
    · omega
theorem join_snoc (x : List UInt8) (r : List (List UInt8)) (y sep : List UInt8) : Lib.join (x :: r ++ [y]) sep = Lib.join (x :: r) sep ++ sep ++ y := by
  rw [List.cons_append, Lib.join_cons, Lib.join_cons]
  simp [Lib.joinTail]
theorem txt_join (C : Nat) (ms : List Nat) (i : Nat) : txt C ms i = Lib.join ((List.range i).map fun r => rowB ms r C) [47] := by
  induction i with
  | zero => rfl
  | succ i ih =>
    rw [txt, List.range_succ, List.map_append, ih]
    cases i with
    | zero =>
      simp [Lib.join_one, Lib.join_nil]
    | succ i =>
      rw [if_pos (by omega), List.range_succ_eq_map, List.map_cons]
      have := join_snoc (rowB ms 0 C) (((List.range i).map Nat.succ).map fun r => rowB ms r C) (rowB ms (i + 1) C) [47]
      simpa using this.symm
theorem tableText_l0 (R C : Nat) (ms : List Nat) (hR : ms.length = R) (hR6 : R ≤ 6) (hC : C ≤ 6) (hb : ∀ x ∈ ms, x < 64) : ∀ (d k i : Nat), i + d = R → d * (C + 3) < k →
    impl_tableText.l0 k ((List.range i).map fun r => (⟨(rowB ms r C).toArray⟩ : ByteArray)) (R : Int) (i : Int) (R : Int) (C : Int) (ms.map (fun (x : Nat) => (x : Int))) = some ⟨(txt C ms R).toArray⟩ := by
  intro d
  induction d with
  | zero =>
    intro k i hi hk
    obtain ⟨k, rfl⟩ : ∃ m, k = m + 1 := ⟨k - 1, by omega⟩
    simp only [impl_tableText.l0, strings_Join.f]
    have e : i = R := by omega
    subst e
    have ej : ((List.range i).map fun r => (⟨(rowB ms r C).toArray⟩ : ByteArray)).map (·.data.toList) = (List.range i).map fun r => rowB ms r C := by
      rw [List.map_map]
      apply List.map_congr_left
      intro r _
      simp
    have es : (⟨#[47]⟩ : ByteArray).data.toList = [47] := rfl
    have hlen := txt_length C ms i
    have hm : i * (C + 1) ≤ 6 * 7 := Nat.mul_le_mul hR6 (by omega)
    rw [if_neg (by omega), ej, ← txt_join, if_pos ⟨by simp; omega, by omega⟩]
    rfl
  | succ d ih =>
    intro k i hi hk
    rw [Nat.succ_mul] at hk
    obtain ⟨k, rfl⟩ : ∃ m, k = m + 1 := ⟨k - 1, by omega⟩
    simp only [impl_tableText.l0]
    rw [if_pos (by omega)]
    have inner : ∀ (e k j : Nat), j + e = C → d * (C + 3) + 1 + e < k → impl_tableText.l1 k ((List.range i).map fun r => (⟨(rowB ms r C).toArray⟩ : ByteArray)) (i : Int) (⟨(rowB ms i j).toArray⟩ : ByteArray) (R : Int) (i : Int) (C : Int) (j : Int) (R : Int) (C : Int) (ms.map (fun (x : Nat) => (x : Int))) = some ⟨(txt C ms R).toArray⟩ := by
      intro e
      induction e with
      | zero =>
        intro k j hj hk
        obtain ⟨k, rfl⟩ : ∃ m, k = m + 1 := ⟨k - 1, by omega⟩
        simp only [impl_tableText.l1]
        have e2 : j = C := by omega
        subst e2
        have next := ih k (i + 1) (by omega) (by omega)
        rw [List.range_succ, List.map_append] at next
        rw [if_neg (by omega), if_pos (by simp; omega), wrap_ok (by omega) (by omega), show ((i : Int) + 1) = ((i + 1 : Nat) : Int) by omega]
        exact next
      | succ e ihe =>
        intro k j hj hk
        obtain ⟨k, rfl⟩ : ∃ m, k = m + 1 := ⟨k - 1, by omega⟩
        simp only [impl_tableText.l1]
        have next := ihe k (j + 1) (by omega) (by omega)
        rw [rowB_succ] at next
        rw [if_pos (by omega), marked_k (R : Int) (C : Int) ms i j hb (by omega) (by omega), ba_push, ba_push, ba_size, rowB_length, if_pos (by omega), wrap_ok (by omega) (by omega), show ((j : Int) + 1) = ((j + 1 : Nat) : Int) by omega]
        simp only [Option.bind_some]
        cases h : mk ms i j
        · rw [if_neg (by simp), if_pos (by omega)]
          rw [h] at next
          exact next
        · rw [if_pos rfl]
          rw [h] at next
          exact next
    exact inner C k 0 (by omega) (by omega)
theorem tableText_k (R C : Nat) (ms : List Nat) (hR : ms.length = R) (hR6 : R ≤ 6) (hC : C ≤ 6) (hb : ∀ x ∈ ms, x < 64) (k : Nat) (hk : 60 < k) :
    impl_tableText.f k (R : Int) (C : Int) (ms.map (fun (x : Nat) => (x : Int))) = some ⟨(txt C ms R).toArray⟩ := by
  unfold impl_tableText.f
  have hm : R * (C + 3) ≤ 6 * 9 := Nat.mul_le_mul hR6 (by omega)
  exact tableText_l0 R C ms hR hR6 hC hb R k 0 (by omega) (by omega)
theorem feText_l0 (R C : Nat) (ms : List Nat) (hR : ms.length = R) (hR6 : R ≤ 6) (hC : C ≤ 6) (hb : ∀ x ∈ ms, x < 64) : ∀ (d k i : Nat), i + d = R → d * (C + 4) < k →
    spec_feText.l0 k (⟨(txt C ms i).toArray⟩ : ByteArray) (ms.map (fun (x : Nat) => (x : Int))) (R : Int) (i : Int) (R : Int) (C : Int) (ms.map (fun (x : Nat) => (x : Int))) = some ⟨(txt C ms R).toArray⟩ := by
  intro d
  have lm : ((ms.map (fun (x : Nat) => (x : Int))).length : Int) = (R : Int) := by simp [hR]
  induction d with
  | zero =>
    intro k i hi hk
    obtain ⟨k, rfl⟩ : ∃ m, k = m + 1 := ⟨k - 1, by omega⟩
    simp only [spec_feText.l0]
    have e : i = R := by omega
    rw [if_neg (by omega), e]
  | succ d ih =>
    intro k i hi hk
    rw [Nat.succ_mul] at hk
    obtain ⟨k, rfl⟩ : ∃ m, k = m + 2 := ⟨k - 2, by omega⟩
    have hlen := txt_length C ms i
    have hm : i * (C + 1) ≤ 6 * 7 := Nat.mul_le_mul (by omega) (by omega)
    have a1 := getD_lt (b := 64) (by omega) hb i
    have inner : ∀ (e k j : Nat), j + e = C → d * (C + 4) + 1 + e < k → spec_feText.l1 k (⟨((if 0 < i then txt C ms i ++ [47] else txt C ms i) ++ rowB ms i j).toArray⟩ : ByteArray) ((ms.getD i 0 : Nat) : Int) (j : Int) (ms.map (fun (x : Nat) => (x : Int))) (R : Int) (i : Int) (R : Int) (C : Int) (ms.map (fun (x : Nat) => (x : Int))) = some ⟨(txt C ms R).toArray⟩ := by
      intro e
      induction e with
      | zero =>
        intro k j hj hk
        obtain ⟨k, rfl⟩ : ∃ m, k = m + 1 := ⟨k - 1, by omega⟩
        simp only [spec_feText.l1]
        have e2 : j = C := by omega
        subst e2
        rw [if_neg (by omega), wrap_ok (by omega) (by omega), show ((i : Int) + 1) = ((i + 1 : Nat) : Int) by omega]
        exact ih k (i + 1) (by omega) (by omega)
      | succ e ihe =>
        intro k j hj hk
        obtain ⟨k, rfl⟩ : ∃ m, k = m + 1 := ⟨k - 1, by omega⟩
        simp only [spec_feText.l1]
        have next := ihe k (j + 1) (by omega) (by omega)
        rw [rowB_succ, ← List.append_assoc] at next
        have em : (ms.getD i 0).testBit j = mk ms i j := rfl
        have hl2 : ((if 0 < i then txt C ms i ++ [47] else txt C ms i) ++ rowB ms i j).length ≤ 100 := by
          rw [List.length_append, rowB_length]
          split
          · rw [List.length_append]
            simp
            omega
          · omega
        rw [if_pos (by omega), orHas_k _ j (by omega), em, ba_push, ba_push, ba_size, if_pos (by omega), wrap_ok (by omega) (by omega), show ((j : Int) + 1) = ((j + 1 : Nat) : Int) by omega]
        simp only [Option.bind_some]
        cases h : mk ms i j
        · rw [if_neg (by simp), if_pos (by omega)]
          rw [h] at next
          exact next
        · rw [if_pos rfl]
          rw [h] at next
          exact next
    have start := inner C k 0 (by omega) (by omega)
    have e0 : rowB ms i 0 = [] := rfl
    rw [e0, List.append_nil] at start
    rw [spec_feText.l0, if_pos (by omega), if_pos (by omega), if_pos (by omega), rd_map]
    by_cases h0 : 0 < i
    · rw [if_pos h0] at start
      rw [if_pos (by omega), ba_size, if_pos (by omega), ba_push, spec_feText.j1]
      exact start
    · rw [if_neg h0] at start
      rw [if_neg (by omega), spec_feText.j1]
      exact start
theorem feText_k (R C : Nat) (ms : List Nat) (hR : ms.length = R) (hR6 : R ≤ 6) (hC : C ≤ 6) (hb : ∀ x ∈ ms, x < 64) (k : Nat) (hk : 70 < k) :
    spec_feText.f k (R : Int) (C : Int) (ms.map (fun (x : Nat) => (x : Int))) = some ⟨(txt C ms R).toArray⟩ := by
  unfold spec_feText.f
  have lm : ((ms.map (fun (x : Nat) => (x : Int))).length : Int) = (R : Int) := by simp [hR]
  have hm : R * (C + 4) ≤ 6 * 10 := Nat.mul_le_mul hR6 (by omega)
  rw [lm]
  exact feText_l0 R C ms hR hR6 hC hb R k 0 (by omega) (by omega)

/-- A text cut at a byte. -/
def spl (c : UInt8) : List UInt8 → List (List UInt8)
  | [] => [[]]
  | x :: l => if x = c then [] :: spl c l else match spl c l with
    | [] => [[x]]
    | p :: ps => (x :: p) :: ps
theorem spl_ne (c : UInt8) : ∀ l, spl c l ≠ []
  | [] => by simp [spl]
  | x :: l => by
    unfold spl
    split
    · simp
    · split <;> simp
theorem spl_free (c : UInt8) : ∀ l : List UInt8, c ∉ l → spl c l = [l]
  | [], _ => rfl
  | x :: l, h => by
    simp only [List.mem_cons, not_or] at h
    unfold spl
    rw [if_neg (Ne.symm h.1), spl_free c l h.2]
theorem spl_app (c : UInt8) : ∀ (p l : List UInt8), c ∉ p → spl c (p ++ c :: l) = p :: spl c l
  | [], l, _ => by simp [spl]
  | x :: p, l, h => by
    simp only [List.mem_cons, not_or] at h
    rw [List.cons_append]
    simp only [spl, if_neg (Ne.symm h.1), spl_app c p l h.2]
theorem join_cc (p q : List UInt8) (r : List (List UInt8)) (c : UInt8) : Lib.join (p :: q :: r) [c] = p ++ c :: Lib.join (q :: r) [c] := by
  rw [Lib.join_cons, Lib.join_cons]
  simp [Lib.joinTail]
/-- A list of texts without the byte is what its join is cut into. -/
theorem spl_join (c : UInt8) : ∀ (ps : List (List UInt8)), ps ≠ [] → (∀ p ∈ ps, c ∉ p) → spl c (Lib.join ps [c]) = ps
  | [], h, _ => absurd rfl h
  | [p], _, h => by rw [Lib.join_one]; exact spl_free c p (h p (by simp))
  | p :: q :: r, _, h => by
    rw [join_cc, spl_app c p _ (h p (by simp)), spl_join c (q :: r) (by simp) (fun x hx => h x (List.mem_cons_of_mem _ hx))]
theorem splitK_spl (c : UInt8) : ∀ (n : Nat) (s : List UInt8), Lib.count s [c] = n → Lib.splitK [c] 0 n s = spl c s
  | 0, s, h => by
    rw [Lib.count_one, List.count_eq_zero] at h
    rw [spl_free c s h]
    rfl
  | n + 1, s, h => by
    rcases Lib.index_spec s [c] with ⟨h1, _⟩ | ⟨i, h1, h2, h3, h4⟩
    · rw [Lib.count_miss h1] at h
      omega
    · have h5 := Lib.count_hit (by simp) h1
      rw [h] at h5
      have h6 : Lib.count (s.drop (i + 1)) [c] = n := by simp only [List.length_cons, List.length_nil, Nat.zero_add] at h5; omega
      have h7 := Lib.occAt_head rfl h3
      have hi : i < s.length := (List.getElem?_eq_some_iff.1 h7).1
      have hsi : s[i] = c := (List.getElem?_eq_some_iff.1 h7).2
      have e1 : s = s.take i ++ c :: s.drop (i + 1) := by
        have := List.take_append_drop i s
        rw [List.drop_eq_getElem_cons hi, hsi] at this
        exact this.symm
      have e2 : c ∉ s.take i := by
        intro hm
        obtain ⟨j, hj, hjc⟩ := List.mem_iff_getElem.1 hm
        rw [List.length_take] at hj
        have hj2 : j < i := by omega
        rw [List.getElem_take] at hjc
        have := h4 j hj2
        rw [Lib.occAt_iff_take s [c] j (by simp; omega)] at this
        simp only [List.length_cons, List.length_nil, Nat.zero_add] at this
        rw [List.drop_eq_getElem_cons (by omega), List.take_succ_cons, List.take_zero, hjc] at this
        simp at this
      unfold Lib.splitK
      rw [if_neg (by rw [h1]; intro h; have := eq_of_beq h; omega), h1]
      have e3 : ((i : Int)).toNat = i := by omega
      rw [e3]
      simp only [Nat.add_zero, List.length_cons, List.length_nil, Nat.zero_add]
      rw [splitK_spl c n _ h6]
      conv => rhs; rw [e1]
      rw [spl_app c _ _ e2]
def toBA (p : List UInt8) : ByteArray := ⟨p.toArray⟩
theorem toBA_data (s : ByteArray) : toBA s.data.toList = s := by
  apply ByteArray.ext
  simp [toBA]
theorem toBA_list (p : List UInt8) : (toBA p).data.toList = p := by simp [toBA]
theorem toBA_size (p : List UInt8) : (toBA p).size = p.length := rfl
theorem splitB_spl (c : UInt8) (s : ByteArray) : Lib.splitB ⟨#[c]⟩ 0 (Lib.countB s ⟨#[c]⟩) s = (spl c s.data.toList).map toBA := by
  have h := Lib.splitB_data ⟨#[c]⟩ 0 (Lib.countB s ⟨#[c]⟩) s
  have h2 : Lib.splitK [c] 0 (Lib.countB s ⟨#[c]⟩) s.data.toList = spl c s.data.toList := splitK_spl c _ _ rfl
  rw [show (⟨#[c]⟩ : ByteArray).data.toList = [c] from rfl, h2] at h
  rw [← h, List.map_map]
  have : (toBA ∘ fun x : ByteArray => x.data.toList) = id := by
    funext x
    exact toBA_data x
  rw [this, List.map_id]
theorem extract_toBA (s : ByteArray) (a b : Nat) : s.extract a b = toBA ((s.data.toList.drop a).take (b - a)) := by
  apply ByteArray.ext
  simp [toBA, ByteArray.data_extract]
  apply Array.ext'
  simp [List.extract_eq_take_drop]
theorem bt_list (s : ByteArray) (i : Nat) (hi : i < s.size) : bt s (i : Int) = ((s.data.toList.getD i 0).toNat : Int) := by
  unfold bt
  have e : ((i : Int)).toNat = i := by omega
  rw [e]
  simp only [dif_pos hi]
  congr 2
  rw [List.getD_eq_getElem?_getD, List.getElem?_eq_getElem (by rw [Array.length_toList]; exact hi)]
  rfl

theorem rdE_map (ps : List (List UInt8)) (i : Nat) (hi : i < ps.length) : Enc.rd (ps.map toBA) (i : Int) = toBA (ps.getD i []) := by
  unfold Enc.rd
  have e : ((i : Int)).toNat = i := by omega
  rw [e, List.getD_eq_getElem?_getD, List.getElem?_map, List.getD_eq_getElem?_getD, List.getElem?_eq_getElem hi]
  rfl
theorem bt_toBA (p : List UInt8) (j : Nat) (hj : j < p.length) : bt (toBA p) (j : Int) = ((p.getD j 0).toNat : Int) := by
  rw [bt_list _ j (by rw [toBA_size]; exact hj), toBA_list]
theorem byte_eq (x : UInt8) : (((x.toNat : Nat) : Int) = 49) ↔ x = 49 := by
  constructor
  · intro h
    apply UInt8.toNat_inj.1
    show x.toNat = 49
    omega
  · rintro rfl; rfl
/-- What is marked in a piece. -/
def one1 (p : List UInt8) (j : Nat) : Bool := decide (p.getD j 0 = 49)
def valB (p : List UInt8) : Nat := bitsum (one1 p) p.length
theorem split_k (s : ByteArray) (hs : s.size < 4294967281) : strings_Split.f s (⟨#[47]⟩ : ByteArray) = some ((spl 47 s.data.toList).map toBA) := by
  unfold strings_Split.f
  rw [if_pos ⟨hs, by decide⟩, splitB_spl]
theorem list_size (s : ByteArray) : s.data.toList.length = s.size := by rw [Array.length_toList]; rfl
theorem l1Split_l0 (s : ByteArray) (hs : s.size ≤ 1048576) : ∀ (d k i a : Nat) (out : List ByteArray), i + d = s.size → d < k → a ≤ i → out.length ≤ i → 47 ∉ (s.data.toList.drop a).take (i - a) →
    spec_l1Split.l0 k s 47 out (a : Int) (i : Int) = some (out ++ (spl 47 (s.data.toList.drop a)).map toBA) := by
  intro d
  induction d with
  | zero =>
    intro k i a out hi hk ha ho hf
    obtain ⟨k, rfl⟩ : ∃ m, k = m + 1 := ⟨k - 1, by omega⟩
    have e : i = s.size := by omega
    subst e
    have e1 : (s.data.toList.drop a).take (s.size - a) = s.data.toList.drop a := by rw [List.take_of_length_le]; rw [List.length_drop, list_size]; omega
    rw [e1] at hf
    have e2 : ((a : Int)).toNat = a := by omega
    rw [spec_l1Split.l0, if_neg (by omega), if_pos (by omega), if_pos (by omega), if_pos (by omega), e2, extract_toBA, e1, spl_free 47 _ hf]
    rfl
  | succ d ih =>
    intro k i a out hi hk ha ho hf
    obtain ⟨k, rfl⟩ : ∃ m, k = m + 1 := ⟨k - 1, by omega⟩
    have hil : i < s.data.toList.length := by rw [list_size]; omega
    have e2 : ((a : Int)).toNat = a := by omega
    have e3 : ((i : Int)).toNat = i := by omega
    have e4 : wrap64 ((i : Int) + 1) = ((i + 1 : Nat) : Int) := by rw [wrap_ok (by omega) (by omega)]; omega
    have hg : s.data.toList.getD i 0 = s.data.toList[i] := by rw [List.getD_eq_getElem?_getD, List.getElem?_eq_getElem hil]; rfl
    have hdrop : (s.data.toList.drop a).drop (i - a) = s.data.toList.drop i := by rw [List.drop_drop]; congr 1; omega
    have hsp : s.data.toList.drop a = (s.data.toList.drop a).take (i - a) ++ s.data.toList[i] :: s.data.toList.drop (i + 1) := by
      have := List.take_append_drop (i - a) (s.data.toList.drop a)
      rw [hdrop, List.drop_eq_getElem_cons hil] at this
      exact this.symm
    rw [spec_l1Split.l0, if_pos (by omega), if_pos (by omega), bt_list s i (by omega), hg, e4, e2, e3]
    by_cases hb : s.data.toList[i] = 47
    · rw [hb, if_pos (by rfl), if_pos (by omega), if_pos (by omega), if_pos (by omega), if_pos (by omega)]
      rw [ih k (i + 1) (i + 1) _ (by omega) (by omega) (Nat.le_refl _) (by simp; omega) (by simp)]
      rw [hb] at hsp
      conv => rhs; rw [hsp]
      rw [spl_app 47 _ _ hf, extract_toBA]
      simp
    · have hb2 : ¬ (((s.data.toList[i].toNat : Nat) : Int) = 47) := by
        intro h
        apply hb
        apply UInt8.toNat_inj.1
        show s.data.toList[i].toNat = 47
        omega
      rw [if_neg hb2]
      refine ih k (i + 1) a out (by omega) (by omega) (by omega) (by omega) ?_
      have e5 : (s.data.toList.drop a).take (i + 1 - a) = (s.data.toList.drop a).take (i - a) ++ [s.data.toList[i]] := by
        rw [show i + 1 - a = (i - a) + 1 by omega, List.take_add_one]
        congr 1
        rw [List.getElem?_drop, show a + (i - a) = i by omega, List.getElem?_eq_getElem hil]
        rfl
      rw [e5, List.mem_append]
      rintro (h | h)
      · exact hf h
      · simp at h
        exact hb h.symm
theorem l1Split_k (s : ByteArray) (hs : s.size ≤ 1048576) (k : Nat) (hk : s.size < k) : spec_l1Split.f k s 47 = some ((spl 47 s.data.toList).map toBA) := by
  unfold spec_l1Split.f
  have := l1Split_l0 s hs s.size k 0 0 [] (by omega) hk (Nat.le_refl _) (by simp) (by simp)
  simpa using this
theorem spl_length (c : UInt8) : ∀ l : List UInt8, (spl c l).length ≤ l.length + 1
  | [] => by simp [spl]
  | x :: l => by
    have := spl_length c l
    simp only [spl]
    split
    · simp; omega
    · split
      · simp
      · rename_i p ps h
        rw [h] at this
        simp at this ⊢
        omega
theorem spl_lens (c : UInt8) : ∀ l : List UInt8, ∀ p ∈ spl c l, p.length ≤ l.length
  | [], p, h => by simp [spl] at h; subst h; simp
  | x :: l, p, h => by
    have ih := spl_lens c l
    simp only [spl] at h
    split at h
    · rcases List.mem_cons.1 h with rfl | h
      · simp
      · have := ih p h; simp; omega
    · split at h
      · simp at h; subst h; simp
      · rename_i q qs hq
        rcases List.mem_cons.1 h with rfl | h
        · have := ih q (by rw [hq]; simp); simp; omega
        · have := ih p (by rw [hq]; simp [h]); simp; omega
/-- A table in numbers. -/
def Tb (r c : Nat) (ms : List Nat) : Prop := 1 ≤ r ∧ r ≤ 6 ∧ 1 ≤ c ∧ c ≤ 6 ∧ ms.length = r ∧ ∀ x ∈ ms, x < 2 ^ c
theorem Tb.tab {r c : Nat} {ms : List Nat} (h : Tb r c ms) : isTab (r : Int) (c : Int) (ms.map (fun (x : Nat) => (x : Int))) = true :=
  (isTab_iff _ _ _).2 ⟨r, c, ms, rfl, rfl, rfl, h⟩
theorem Tb.lt64 {r c : Nat} {ms : List Nat} (h : Tb r c ms) : ∀ x ∈ ms, x < 64 := fun x hx => Nat.lt_of_lt_of_le (h.2.2.2.2.2 x hx) (Nat.pow_le_pow_right (n := 2) (by omega) h.2.2.2.1)
theorem bitsum_self (m c : Nat) (hm : m < 2 ^ c) : bitsum (fun j => m.testBit j) c = m := by
  apply Nat.eq_of_testBit_eq
  intro i
  rw [bitsum_bit]
  by_cases hi : i < c
  · simp [hi]
  · have : m.testBit i = false := Nat.testBit_lt_two_pow (Nat.lt_of_lt_of_le hm (Nat.pow_le_pow_right (by omega) (by omega)))
    simp [this]
/-- The marks, read again. -/
theorem relList_self {r c : Nat} {ms : List Nat} (h : Tb r c ms) {p : Nat → Nat → Bool} (hp : ∀ i j, i < r → j < c → p i j = mk ms i j) : relList r c p = ms.map (fun (x : Nat) => (x : Int)) := by
  obtain ⟨h1, h2, h3, h4, h5, h6⟩ := h
  unfold relList
  apply List.ext_getElem
  · simp [h5]
  · intro i hi hi2
    simp only [List.getElem_map, List.getElem_range]
    simp only [List.length_map, List.length_range] at hi hi2
    rw [bitsum_congr c (fun j hj => hp i j hi hj)]
    have e : ms.getD i 0 = ms[i] := by rw [List.getD_eq_getElem?_getD, List.getElem?_eq_getElem (by omega)]; rfl
    show ((bitsum (fun j => (ms.getD i 0).testBit j) c : Nat) : Int) = _
    rw [e, bitsum_self _ c (h6 _ (List.getElem_mem _))]
theorem rowB_free (ms : List Nat) (r c : Nat) : (47 : UInt8) ∉ rowB ms r c := by
  unfold rowB
  intro h
  obtain ⟨j, _, h2⟩ := List.mem_map.1 h
  split at h2
  · exact absurd h2 (by decide)
  · exact absurd h2 (by decide)
theorem rowB_at (ms : List Nat) (r c j : Nat) (hj : j < c) : (rowB ms r c).getD j 0 = if mk ms r j = true then 49 else 48 := by
  unfold rowB
  rw [List.getD_eq_getElem?_getD, List.getElem?_map, List.getElem?_range hj]
  rfl
theorem rowB_one (ms : List Nat) (r c j : Nat) (hj : j < c) : one1 (rowB ms r c) j = mk ms r j := by
  unfold one1
  rw [rowB_at ms r c j hj]
  cases mk ms r j <;> simp
/-- The pieces of a table's text. -/
theorem spl_txt {r c : Nat} {ms : List Nat} (h : Tb r c ms) : spl 47 (txt c ms r) = (List.range r).map fun i => rowB ms i c := by
  rw [txt_join]
  apply spl_join
  · have := h.1
    intro e
    have := congrArg List.length e
    simp at this
    omega
  · intro p hp
    obtain ⟨i, _, rfl⟩ := List.mem_map.1 hp
    exact rowB_free ms i c
theorem toList_ext {a b : ByteArray} (h : a.toList = b.toList) : a = b := by
  have e : ∀ x : ByteArray, x.toList = x.data.toList := fun x => Lib.toList_data x
  rw [e, e] at h
  apply ByteArray.ext
  exact Array.ext' h
/-- The text is that of a table. -/
def IsTxt (s : ByteArray) (r c : Nat) (ms : List Nat) : Prop := Tb r c ms ∧ s = toBA (txt c ms r)
theorem range_get (r i : Nat) (hi : i < r) (f : Nat → List UInt8) : ((List.range r).map f).getD i [] = f i := by
  rw [List.getD_eq_getElem?_getD, List.getElem?_map, List.getElem?_range hi]
  rfl
theorem parse_yes (s : ByteArray) (r c : Nat) (ms : List Nat) (h : IsTxt s r c ms) (k : Nat) (hk : 200 < k) : impl_ParseTable.f k s = some ((r : Int), (c : Int), ms.map (fun (x : Nat) => (x : Int)), true) := by
  obtain ⟨hT, rfl⟩ := h
  have h64 := hT.lt64
  have htab := hT.tab
  have hself := fun p hp => relList_self hT (p := p) hp
  have hspl := spl_txt hT
  obtain ⟨h1, h2, h3, h4, h5, h6⟩ := hT
  have hlen := txt_length c ms r
  have hm : r * (c + 1) ≤ 6 * 7 := Nat.mul_le_mul h2 (by omega)
  have hm3 : r * (c + 3) ≤ 6 * 9 := Nat.mul_le_mul h2 (by omega)
  unfold impl_ParseTable.f
  rw [split_k _ (by rw [toBA_size]; omega), toBA_list, hspl]
  simp only [Option.bind_some]
  have el : ((((List.range r).map fun i => rowB ms i c).map toBA).length : Int) = (r : Int) := by simp
  have e0 : Enc.rd (((List.range r).map fun i => rowB ms i c).map toBA) 0 = toBA (rowB ms 0 c) := by
    have := rdE_map ((List.range r).map fun i => rowB ms i c) 0 (by simp; omega)
    rw [range_get r 0 (by omega)] at this
    exact this
  rw [el, if_neg (by omega), if_pos (by omega), e0, toBA_size, rowB_length, decide_eq_false (by omega)]
  obtain ⟨k, rfl⟩ : ∃ m, k = m + 1 := ⟨k - 1, by omega⟩
  rw [impl_ParseTable.j0, if_neg (by simp), el, if_pos (by omega), e0, toBA_size, rowB_length]
  rw [table_k r c (by omega) (by omega) _ (fun i j => mk ms i j) (fun i j hi hj => by
    unfold impl_ParseTable_1.f
    have e1 := rdE_map ((List.range r).map fun i => rowB ms i c) i (by simpa using hi)
    rw [range_get r i hi] at e1
    rw [el, if_pos (by omega), if_pos (by omega), e1, toBA_size, rowB_length, if_pos (by omega), if_pos (by omega), bt_toBA _ j (by rw [rowB_length]; exact hj), rowB_at ms i c j hj]
    cases mk ms i j <;> rfl) k (by omega)]
  simp only [Option.bind_some]
  rw [hself _ (fun _ _ _ _ => rfl), IsTable_k _ _ _ (by simp; omega) k (by simp; omega), htab]
  simp only [Option.bind_some, if_true]
  rw [tableText_k r c ms h5 h2 h4 h64 k (by omega)]
  simp only [Option.bind_some]
  exact if_pos rfl
theorem parse_no (s : ByteArray) (hs : s.size ≤ 1048576) (hP : ∀ r c ms, ¬ IsTxt s r c ms) (k : Nat) (hk : 2000 < k) : impl_ParseTable.f k s = some (0, 0, [], false) := by
  unfold impl_ParseTable.f
  rw [split_k s (by omega)]
  simp only [Option.bind_some]
  obtain ⟨k, rfl⟩ : ∃ m, k = m + 1 := ⟨k - 1, by omega⟩
  generalize hps : spl 47 s.data.toList = ps
  have hne : ps ≠ [] := by rw [← hps]; exact spl_ne _ _
  have hpos : 0 < ps.length := by cases ps with | nil => exact absurd rfl hne | cons => simp
  have el : (((ps.map toBA).length : Nat) : Int) = (ps.length : Int) := by simp
  have e0 : Enc.rd (ps.map toBA) 0 = toBA (ps.getD 0 []) := rdE_map ps 0 hpos
  rw [el]
  by_cases h1 : (ps.length : Int) > 6
  · rw [if_pos h1, impl_ParseTable.j0, if_pos rfl]
  rw [if_neg h1, if_pos (by omega), e0, toBA_size]
  by_cases h2 : ((ps.getD 0 []).length : Int) > 6
  · rw [decide_eq_true h2, impl_ParseTable.j0, if_pos rfl]
  rw [decide_eq_false h2, impl_ParseTable.j0, if_neg (by simp), el, if_pos (by omega), e0, toBA_size]
  have hm3 : ps.length * ((ps.getD 0 []).length + 3) ≤ 6 * 9 := Nat.mul_le_mul (by omega) (by omega)
  rw [table_k ps.length (ps.getD 0 []).length (by omega) (by omega) _ (fun i j => decide (j < (ps.getD i []).length) && one1 (ps.getD i []) j) (fun i j hi hj => by
    unfold impl_ParseTable_1.f
    have e1 := rdE_map ps i hi
    rw [el, if_pos (by omega), if_pos (by omega), e1, toBA_size]
    by_cases hj2 : j < (ps.getD i []).length
    · rw [if_pos (by omega), if_pos (by omega), bt_toBA _ j hj2]
      simp only [hj2, decide_true, Bool.true_and, one1]
      congr 1
      have := byte_eq ((ps.getD i []).getD j 0)
      by_cases hb : (ps.getD i []).getD j 0 = 49
      · rw [hb]; rfl
      · have hn := mt this.1 hb
        rw [decide_eq_false hb, beq_eq_false_iff_ne.2 hn]
    · rw [if_neg (by omega), decide_eq_false hj2, Bool.false_and]) k (by omega)]
  simp only [Option.bind_some]
  have hrl := relList_length ps.length (ps.getD 0 []).length (fun i j => decide (j < (ps.getD i []).length) && one1 (ps.getD i []) j)
  rw [IsTable_k _ _ _ (by omega) k (by omega)]
  simp only [Option.bind_some]
  cases hT : isTab (ps.length : Int) ((ps.getD 0 []).length : Int) (relList ps.length (ps.getD 0 []).length (fun i j => decide (j < (ps.getD i []).length) && one1 (ps.getD i []) j))
  · simp
  · obtain ⟨r, c, ms, er, ec, em, hTb⟩ := (isTab_iff _ _ _).1 hT
    have hT2 : Tb r c ms := hTb
    obtain ⟨q1, q2, q3, q4, q5, q6⟩ := hTb
    rw [if_pos rfl, er, ec, em, tableText_k r c ms q5 q2 q4 hT2.lt64 k (by omega)]
    simp only [Option.bind_some]
    rw [if_neg]
    intro h
    exact hP r c ms ⟨hT2, (toList_ext h).symm⟩
/-- The reference's loop over the pieces. -/
theorem sparse_l0 (B Q T : Nat) (hB : B ≤ 1048576) (hT : B + 2 ≤ T) (s : ByteArray) (ps : List (List UInt8)) (hps : ps.length ≤ B + 1) (hpl : ∀ p ∈ ps, p.length ≤ B) (R C : Int) (fin : List Int → Option (Int × Int × List Int × Bool)) (hfin : ∀ M : List Int, M.length ≤ B + 1 → ∀ k, Q < k → spec_ParseTable.l0 k s (ps.map toBA) (ps.length : Int) (ps.length : Int) R C M = fin M) :
    ∀ (d k i : Nat) (M : List Int), i + d = ps.length → d * T + Q < k → M.length = i →
    spec_ParseTable.l0 k s (ps.map toBA) (ps.length : Int) (i : Int) R C M = if (∀ p ∈ ps.drop i, p.length ≤ 6) then fin (M ++ (ps.drop i).map fun p => ((valB p : Nat) : Int)) else some (0, 0, [], false) := by
  intro d
  induction d with
  | zero =>
    intro k i M hi hk hM
    have e : i = ps.length := by omega
    subst e
    rw [Nat.zero_mul] at hk
    rw [hfin M (by omega) k (by omega), List.drop_length]
    simp
  | succ d ih =>
    intro k i M hi hk hM
    rw [Nat.succ_mul] at hk
    obtain ⟨k, rfl⟩ : ∃ m, k = m + 1 := ⟨k - 1, by omega⟩
    have hil : i < ps.length := by omega
    have e1 := rdE_map ps i hil
    have eg : ps.getD i [] = ps[i] := by rw [List.getD_eq_getElem?_getD, List.getElem?_eq_getElem hil]; rfl
    have el : (((ps.map toBA).length : Nat) : Int) = (ps.length : Int) := by simp
    have hdr : ps.drop i = ps[i] :: ps.drop (i + 1) := List.drop_eq_getElem_cons hil
    rw [spec_ParseTable.l0, if_pos (by omega), if_pos (by omega), el, if_pos (by omega), e1, eg, toBA_size, hdr]
    by_cases h6 : ((ps[i].length : Nat) : Int) > 6
    · rw [if_pos h6, if_neg]
      intro h
      have := h ps[i] List.mem_cons_self
      omega
    · rw [if_neg h6]
      have inner : ∀ (e k j : Nat), j + e = ps[i].length → d * T + Q + 1 + e < k → spec_ParseTable.l1 k s (toBA ps[i]) ((bitsum (one1 ps[i]) j : Nat) : Int) (j : Int) (ps.map toBA) (ps.length : Int) (i : Int) R C M = if (∀ p ∈ ps.drop (i + 1), p.length ≤ 6) then fin (M ++ (((valB ps[i] : Nat) : Int) :: (ps.drop (i + 1)).map fun p => ((valB p : Nat) : Int))) else some (0, 0, [], false) := by
        intro e
        induction e with
        | zero =>
          intro k j hj hk
          obtain ⟨k, rfl⟩ : ∃ m, k = m + 1 := ⟨k - 1, by omega⟩
          have ej : j = ps[i].length := by omega
          subst ej
          rw [spec_ParseTable.l1, toBA_size, if_neg (by omega), if_pos (by omega), wrap_ok (by omega) (by omega), show ((i : Int) + 1) = ((i + 1 : Nat) : Int) by omega, ih k (i + 1) _ (by omega) (by omega) (by simp; omega)]
          simp [valB]
        | succ e ihe =>
          intro k j hj hk
          obtain ⟨k, rfl⟩ : ∃ m, k = m + 1 := ⟨k - 1, by omega⟩
          have next := ihe k (j + 1) (by omega) (by omega)
          rw [spec_ParseTable.l1, toBA_size, if_pos (by omega), if_pos (by omega), bt_toBA _ j (by omega), wrap_ok (by omega) (by omega), show ((j : Int) + 1) = ((j + 1 : Nat) : Int) by omega]
          have hb := byte_eq (ps[i].getD j 0)
          by_cases h49 : ps[i].getD j 0 = 49
          · have ho : one1 ps[i] j = true := by simp only [one1, h49, decide_true]
            have e2 : bitsum (one1 ps[i]) (j + 1) = bitsum (one1 ps[i]) j ||| 2 ^ j := by simp [bitsum, ho]
            rw [if_pos (hb.2 h49), or_shl _ j (Nat.lt_of_lt_of_le (bitsum_lt _ j) (Nat.pow_le_pow_right (by omega) (by omega))) (by omega), ← e2]
            exact next
          · have ho : one1 ps[i] j = false := by simp only [one1, h49, decide_false]
            have e2 : bitsum (one1 ps[i]) (j + 1) = bitsum (one1 ps[i]) j := by simp [bitsum, ho]
            rw [if_neg (mt hb.1 h49), ← e2]
            exact next
      have start := inner ps[i].length k 0 (by omega) (by have := hpl ps[i] (List.getElem_mem _); omega)
      have e0 : ((bitsum (one1 ps[i]) 0 : Nat) : Int) = 0 := rfl
      rw [e0] at start
      rw [show ((0 : Nat) : Int) = 0 from rfl] at start
      rw [start]
      have hiff : (∀ p ∈ ps[i] :: ps.drop (i + 1), p.length ≤ 6) ↔ (∀ p ∈ ps.drop (i + 1), p.length ≤ 6) := by
        constructor
        · intro h p hp; exact h p (List.mem_cons_of_mem _ hp)
        · intro h p hp
          rcases List.mem_cons.1 hp with rfl | hp
          · omega
          · exact h p hp
      by_cases hall : ∀ p ∈ ps.drop (i + 1), p.length ≤ 6
      · rw [if_pos hall, if_pos (hiff.2 hall)]
        rfl
      · rw [if_neg hall, if_neg (mt hiff.1 hall)]
theorem sparse_fin (s : ByteArray) (x : List ByteArray) (n R C : Int) (M : List Int) (hM : M.length ≤ 1048577) (k : Nat) (hk : 1500 < k) (hk2 : M.length + 1 < k) :
    spec_ParseTable.l0 k s x n n R C M = if isTab R C M = true then ((spec_feText.f 1500 R C M).bind fun t => if t.toList = s.toList then some (R, C, M, true) else some (0, 0, [], false)) else some (0, 0, [], false) := by
  obtain ⟨k, rfl⟩ : ∃ m, k = m + 1 := ⟨k - 1, by omega⟩
  rw [spec_ParseTable.l0, if_neg (by omega), feGood_k R C M (by omega) k (by omega)]
  simp only [Option.bind_some]
  cases hT : isTab R C M
  · simp
  · obtain ⟨r, c, ms, rfl, rfl, rfl, q1, q2, q3, q4, q5, q6⟩ := (isTab_iff _ _ _).1 hT
    have h64 : ∀ y ∈ ms, y < 64 := fun y hy => Nat.lt_of_lt_of_le (q6 y hy) (Nat.pow_le_pow_right (n := 2) (by omega) q4)
    rw [feText_k r c ms q5 q2 q4 h64 k (by omega), feText_k r c ms q5 q2 q4 h64 1500 (by omega)]
theorem sparse_kB (B : Nat) (hB : B ≤ 1048576) (s : ByteArray) (hs : s.size ≤ B) (k : Nat) (hk : (B + 1) * (B + 2) + (B + 3000) < k) : (∀ r c ms, IsTxt s r c ms → spec_ParseTable.f k s = some ((r : Int), (c : Int), ms.map (fun (x : Nat) => (x : Int)), true)) ∧ ((∀ r c ms, ¬ IsTxt s r c ms) → spec_ParseTable.f k s = some (0, 0, [], false)) := by
  have hsl := spl_length 47 s.data.toList
  have hsp := spl_lens 47 s.data.toList
  rw [list_size] at hsl
  have hpl : ∀ p ∈ spl 47 s.data.toList, p.length ≤ B := fun p hp => by have := hsp p hp; rw [list_size] at this; omega
  have hne := spl_ne 47 s.data.toList
  have main : ∀ ps, spl 47 s.data.toList = ps → spec_ParseTable.f k s = if (∀ p ∈ ps, p.length ≤ 6) then (if isTab (ps.length : Int) ((ps.getD 0 []).length : Int) (ps.map fun p => ((valB p : Nat) : Int)) = true then ((spec_feText.f 1500 (ps.length : Int) ((ps.getD 0 []).length : Int) (ps.map fun p => ((valB p : Nat) : Int))).bind fun t => if t.toList = s.toList then some ((ps.length : Int), ((ps.getD 0 []).length : Int), (ps.map fun p => ((valB p : Nat) : Int)), true) else some (0, 0, [], false)) else some (0, 0, [], false)) else some (0, 0, [], false) := by
    intro ps hps
    rw [hps] at hsl hpl hne
    unfold spec_ParseTable.f
    rw [l1Split_k s (by omega) k (by omega), hps]
    simp only [Option.bind_some]
    have hpos : 0 < ps.length := by cases ps with | nil => exact absurd rfl hne | cons => simp
    have el : (((ps.map toBA).length : Nat) : Int) = (ps.length : Int) := by simp
    have e0 : Enc.rd (ps.map toBA) 0 = toBA (ps.getD 0 []) := rdE_map ps 0 hpos
    rw [el, if_pos (by omega), e0, toBA_size]
    have hd : ps.length * (B + 2) ≤ (B + 1) * (B + 2) := Nat.mul_le_mul_right _ (by omega)
    obtain ⟨Q, hQ, hQ2⟩ : ∃ Q : Nat, B + 2000 ≤ Q ∧ Q ≤ B + 2000 := ⟨B + 2000, Nat.le_refl _, Nat.le_refl _⟩
    have hfin : ∀ (M : List Int), M.length ≤ B + 1 → ∀ k, Q < k → M.length ≤ 1048577 ∧ 1500 < k ∧ M.length + 1 < k := fun M h1 k h2 => ⟨by omega, Nat.lt_of_le_of_lt (Nat.le_trans (Nat.le_trans (by decide : 1500 ≤ 2000) (Nat.le_add_left 2000 B)) hQ) h2, by omega⟩
    have := sparse_l0 B Q (B + 2) hB (Nat.le_refl _) s ps (by omega) hpl (ps.length : Int) ((ps.getD 0 []).length : Int) _ (fun M hM k hk => sparse_fin s _ _ _ _ M (hfin M hM k hk).1 k (hfin M hM k hk).2.1 (hfin M hM k hk).2.2) ps.length k 0 [] (by omega) (by omega) rfl
    simpa using this
  constructor
  · rintro r c ms ⟨hT, rfl⟩
    have hspl := spl_txt hT
    rw [toBA_list] at main
    rw [main _ hspl]
    have h64 := hT.lt64
    have htab := hT.tab
    have hself := relList_self hT (p := fun i j => mk ms i j) (fun _ _ _ _ => rfl)
    obtain ⟨h1, h2, h3, h4, h5, h6⟩ := hT
    have el : ((((List.range r).map fun i => rowB ms i c).length : Nat) : Int) = (r : Int) := by simp
    have e0 : (((((List.range r).map fun i => rowB ms i c).getD 0 []).length : Nat) : Int) = (c : Int) := by rw [range_get r 0 (by omega), rowB_length]
    have eM : (((List.range r).map fun i => rowB ms i c).map fun p => ((valB p : Nat) : Int)) = ms.map (fun (x : Nat) => (x : Int)) := by
      rw [← hself]
      unfold relList
      rw [List.map_map]
      apply List.map_congr_left
      intro i _
      simp only [Function.comp, valB, rowB_length]
      rw [bitsum_congr c (fun j hj => rowB_one ms i c j hj)]
    rw [if_pos (by
      intro p hp
      obtain ⟨i, _, rfl⟩ := List.mem_map.1 hp
      rw [rowB_length]
      exact h4), el, e0, eM, if_pos htab, feText_k r c ms h5 h2 h4 h64 1500 (by omega)]
    simp only [Option.bind_some]
    exact if_pos rfl
  · intro hP
    rw [main _ rfl]
    split
    · split
      · rename_i hT
        obtain ⟨r, c, ms, er, ec, em, hTb⟩ := (isTab_iff _ _ _).1 hT
        have hT2 : Tb r c ms := hTb
        obtain ⟨q1, q2, q3, q4, q5, q6⟩ := hTb
        rw [er, ec, em, feText_k r c ms q5 q2 q4 hT2.lt64 1500 (by omega)]
        simp only [Option.bind_some]
        rw [if_neg]
        intro h
        exact hP r c ms ⟨hT2, (toList_ext h).symm⟩
      · rfl
    · rfl
theorem sparse_k (s : ByteArray) (hs : s.size ≤ 1000) (k : Nat) (hk : 1200000 < k) : (∀ r c ms, IsTxt s r c ms → spec_ParseTable.f k s = some ((r : Int), (c : Int), ms.map (fun (x : Nat) => (x : Int)), true)) ∧ ((∀ r c ms, ¬ IsTxt s r c ms) → spec_ParseTable.f k s = some (0, 0, [], false)) := sparse_kB 1000 (by omega) s hs k (by omega)

theorem FnExactParseTable : laws_FnExactParseTable.Pure := by
  intro s _
  by_cases hbig : (s.size : Int) > 1048576
  · refine ⟨1, ?_⟩
    unfold laws_FnExactParseTable.f
    rw [if_pos hbig]
  have hs : s.size ≤ 1048576 := by omega
  obtain ⟨K, hK, hK2⟩ : ∃ K : Nat, (s.size + 1) * (s.size + 2) + (s.size + 3000) < K ∧ 5000 < K := ⟨(s.size + 1) * (s.size + 2) + (s.size + 3000) + 5001, Nat.lt_add_of_pos_right (by decide), Nat.lt_of_lt_of_le (by decide) (Nat.le_add_left _ _)⟩
  refine ⟨K, ?_⟩
  have hS := sparse_kB s.size hs s (Nat.le_refl _) K hK
  clear hK
  have H : ∃ R C M z, M.length ≤ 6 ∧ (∀ k, 2000 < k → impl_ParseTable.f k s = some (R, C, M, z)) ∧ spec_ParseTable.f K s = some (R, C, M, z) := by
    by_cases hP : ∃ r c ms, IsTxt s r c ms
    · obtain ⟨r, c, ms, h⟩ := hP
      have hT := h.1
      have lm : (ms.map (fun (x : Nat) => (x : Int))).length = r := by simp [hT.2.2.2.2.1]
      have r6 := hT.2.1
      exact ⟨_, _, _, _, by omega, fun k hk => parse_yes s r c ms h k (by omega), hS.1 r c ms h⟩
    · have hP2 : ∀ r c ms, ¬ IsTxt s r c ms := fun r c ms h => hP ⟨r, c, ms, h⟩
      exact ⟨_, _, _, _, by simp, fun k hk => parse_no s hs hP2 k hk, hS.2 hP2⟩
  obtain ⟨R, C, M, z, hM, hI, hS⟩ := H
  unfold laws_FnExactParseTable.f
  rw [if_neg hbig, hS]
  simp only [Option.bind_some]
  obtain ⟨k, rfl⟩ : ∃ m, K = m + 2 := ⟨K - 2, by omega⟩
  rw [hI _ (by omega)]
  simp only [Option.bind_some]
  rw [eqTable_k _ _ _ (by omega) _ (by omega)]
  simp only [Option.bind_some, if_true, bne_self_eq_false]
  rw [laws_FnExactParseTable.j0]
  simp only [Bool.false_eq_true, if_false]
  rw [markTable_k _ _ _ (by omega) _ (by omega)]
  simp only [Option.bind_some]
  rw [heldTable_k _ _ _ (by omega) _ (by omega)]
  simp only [Option.bind_some]
  rw [if_neg (by omega)]
  simp only [if_true]
  rw [hI _ (by omega)]
  simp only [Option.bind_some]
  rw [eqTable_k _ _ _ (by omega) _ (by omega)]
  simp only [Option.bind_some, if_true, bne_self_eq_false]
  rw [laws_FnExactParseTable.j1]
  simp only [Bool.false_eq_true, if_false]
  rw [heldTable_k _ _ _ (by omega) _ (by omega)]
  simp only [Option.bind_some]
  rw [if_neg (by omega)]
  simp only [if_true]

end Go.Proofs.YtikhopopiaanmaaDoor.Pure
