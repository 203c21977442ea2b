/- TableText: the program returns for every triple of rows, columns and marks the text that the reference returns; no condition. -/
import Derived.Test.YtcjofpajmhddkaaPFnExactTableTextx3
namespace Go.Proofs.Ytcjofpajmhddkaa.Pure
open Go.RowKit Go.Proofs.Ytcjofpajmhddkaa.PFnExactTableText Go.Proofs.YtcjofpajmhddkaaW.PrintWords Go.Proofs.YtcjofpajmhddkaaW.PrintLast Go.Proofs.YtcjofpajmhddkaaW.PrintMore
set_option linter.unusedVariables false
set_option linter.unusedSimpArgs false

theorem wrap_ok {x : Int} (h0 : -9223372036854775808 ≤ x) (h1 : x < 9223372036854775808) : wrap64 x = x := by unfold wrap64; omega
theorem wf_bounds {x : Int} (h : (Lit.int .i64 x).wf = true) : -9223372036854775808 ≤ x ∧ x < 9223372036854775808 := by
  have e : IntKind.i64.min ≤ x ∧ x ≤ 9223372036854775807 := by simpa [Lit.wf] using h
  have m : IntKind.i64.min = -9223372036854775808 := by decide
  omega
theorem rd_nat (l : List Int) (i : Nat) : rd l (i : Int) = l.getD i 0 := by simp [rd]

theorem toIntS_l0 (l : List Int) (hl : l.length ≤ 4611686018427387904) : ∀ (d k i : Nat) (x : List Int), i + d = l.length → d < k → x.length = l.length → (∀ j, j < i → x[j]? = l[j]?) → laws_toIntS.l0 k l x (i : Int) = some l := by
  intro d
  induction d with
  | zero =>
    intro k i x h hk hx hj
    obtain ⟨k, rfl⟩ : ∃ m, k = m + 1 := ⟨k - 1, by omega⟩
    simp only [laws_toIntS.l0]
    rw [if_neg (by omega)]
    congr 1
    apply List.ext_getElem?
    intro j
    by_cases hji : j < i
    · exact hj j hji
    · rw [List.getElem?_eq_none (by omega), List.getElem?_eq_none (by omega)]
  | succ d ih =>
    intro k i x h hk hx hj
    obtain ⟨k, rfl⟩ : ∃ m, k = m + 1 := ⟨k - 1, by omega⟩
    simp only [laws_toIntS.l0]
    rw [if_pos (by omega), if_pos (by omega), if_pos (by omega), wrap_ok (by omega) (by omega)]
    have e : ((i : Int) + 1) = ((i + 1 : Nat) : Int) := by omega
    rw [e]
    refine ih k (i + 1) _ (by omega) (by omega) (by simpa using hx) ?_
    intro j hji
    have e2 : (i : Int).toNat = i := by omega
    rw [e2, List.getElem?_set]
    by_cases hj2 : i = j
    · subst hj2
      rw [if_pos rfl, if_pos (by omega), rd_nat, List.getElem?_eq_getElem (by omega)]
      simp
      rw [List.getElem?_eq_getElem (by omega)]
      rfl
    · rw [if_neg hj2]
      exact hj j (by omega)
theorem toIntS_k (l : List Int) (hl : l.length ≤ 1048576) (k : Nat) (hk : l.length < k) : laws_toIntS.f k l = some l := by
  unfold laws_toIntS.f
  rw [if_pos (by omega), if_pos (by omega)]
  exact toIntS_l0 l (by omega) l.length k 0 _ (by omega) hk (by simp) (by intro j hj; omega)
theorem toIntS_ev (l : List Int) (hl : l.length ≤ 1048576) : Ev (fun k => laws_toIntS.f k l) l := ⟨l.length + 1, fun k hk => toIntS_k l hl k (by omega)⟩

theorem eqIntS_l0 (l : List Int) (hl : l.length ≤ 4611686018427387904) : ∀ (d k i : Nat), i + d = l.length → d < k → laws_eqIntS.l0 k l l (i : Int) = some true := by
  intro d
  induction d with
  | zero =>
    intro k i h hk
    obtain ⟨k, rfl⟩ : ∃ m, k = m + 1 := ⟨k - 1, by omega⟩
    simp only [laws_eqIntS.l0]
    rw [if_neg (by omega)]
  | succ d ih =>
    intro k i h hk
    obtain ⟨k, rfl⟩ : ∃ m, k = m + 1 := ⟨k - 1, by omega⟩
    simp only [laws_eqIntS.l0]
    rw [if_pos (by omega), if_pos (by omega), if_pos (by omega), if_true, wrap_ok (by omega) (by omega)]
    have e : ((i : Int) + 1) = ((i + 1 : Nat) : Int) := by omega
    rw [e]
    exact ih k (i + 1) (by omega) (by omega)
theorem eqIntS_k (l : List Int) (hl : l.length ≤ 4611686018427387904) (k : Nat) (hk : l.length < k) : laws_eqIntS.f k l l = some true := by
  unfold laws_eqIntS.f
  rw [if_pos rfl]
  exact eqIntS_l0 l hl l.length k 0 (by omega) hk
theorem eqIntS_ev (l : List Int) (hl : l.length ≤ 4611686018427387904) : Ev (fun k => laws_eqIntS.f k l l) true := ⟨l.length + 1, fun k hk => eqIntS_k l hl k (by omega)⟩

theorem within_eq (a b c : Int) : impl_within.f a b c = some (decide (b ≤ a ∧ a ≤ c)) := by
  unfold impl_within.f
  by_cases h : a ≥ b <;> simp [h] <;> omega
theorem l1In_eq (a b c : Int) : spec_l1In.f a b c = some (decide (b ≤ a ∧ a ≤ c)) := by
  unfold spec_l1In.f
  by_cases h : a ≥ b <;> simp [h] <;> omega

def allIn (l : List Int) (a b : Int) : Bool := l.all fun x => decide (a ≤ x ∧ x ≤ b)
theorem getD_drop (l : List Int) (i : Nat) (h : i < l.length) : l.drop i = l.getD i 0 :: l.drop (i + 1) := by
  rw [List.drop_eq_getElem_cons h]
  simp [h]
theorem allWithin_l0 (l : List Int) (a b : Int) (hl : l.length ≤ 4611686018427387904) : ∀ (d k i : Nat), i + d = l.length → d < k → impl_allWithin.l0 k a b l (l.length : Int) (i : Int) = some (allIn (l.drop i) a b) := by
  intro d
  induction d with
  | zero =>
    intro k i h hk
    obtain ⟨k, rfl⟩ : ∃ m, k = m + 1 := ⟨k - 1, by omega⟩
    simp only [impl_allWithin.l0]
    rw [if_neg (by omega), List.drop_eq_nil_of_le (by omega)]
    rfl
  | succ d ih =>
    intro k i h hk
    obtain ⟨k, rfl⟩ : ∃ m, k = m + 1 := ⟨k - 1, by omega⟩
    simp only [impl_allWithin.l0]
    rw [if_pos (by omega), if_pos (by omega), if_pos (by omega), wrap_ok (by omega) (by omega), within_eq, getD_drop l i (by omega), rd_nat]
    have e : ((i : Int) + 1) = ((i + 1 : Nat) : Int) := by omega
    rw [e, ih k (i + 1) (by omega) (by omega)]
    simp only [Option.bind_some, allIn, List.all_cons]
    cases decide (a ≤ l.getD i 0 ∧ l.getD i 0 ≤ b) <;> simp
theorem allWithin_k (l : List Int) (a b : Int) (hl : l.length ≤ 4611686018427387904) (k : Nat) (hk : l.length < k) : impl_allWithin.f k l a b = some (allIn l a b) := by
  unfold impl_allWithin.f
  exact allWithin_l0 l a b hl l.length k 0 (by omega) hk
theorem l1All_l0 (l : List Int) (a b : Int) (hl : l.length ≤ 4611686018427387904) : ∀ (d k i : Nat), i + d = l.length → d < k → spec_l1All.l0 k a b l (l.length : Int) (i : Int) = some (allIn (l.drop i) a b) := by
  intro d
  induction d with
  | zero =>
    intro k i h hk
    obtain ⟨k, rfl⟩ : ∃ m, k = m + 1 := ⟨k - 1, by omega⟩
    simp only [spec_l1All.l0]
    rw [if_neg (by omega), List.drop_eq_nil_of_le (by omega)]
    rfl
  | succ d ih =>
    intro k i h hk
    obtain ⟨k, rfl⟩ : ∃ m, k = m + 1 := ⟨k - 1, by omega⟩
    simp only [spec_l1All.l0]
    rw [if_pos (by omega), if_pos (by omega), if_pos (by omega), wrap_ok (by omega) (by omega), l1In_eq, getD_drop l i (by omega), rd_nat]
    have e : ((i : Int) + 1) = ((i + 1 : Nat) : Int) := by omega
    rw [e, ih k (i + 1) (by omega) (by omega)]
    simp only [Option.bind_some, allIn, List.all_cons]
    cases decide (a ≤ l.getD i 0 ∧ l.getD i 0 ≤ b) <;> simp
theorem l1All_k (l : List Int) (a b : Int) (hl : l.length ≤ 4611686018427387904) (k : Nat) (hk : l.length < k) : spec_l1All.f k l a b = some (allIn l a b) := by
  unfold spec_l1All.f
  exact l1All_l0 l a b hl l.length k 0 (by omega) hk

/-- A table, told as data. -/
def isTab (R C : Int) (M : List Int) : Bool := decide (1 ≤ R ∧ R ≤ 6) && decide (1 ≤ C ∧ C ≤ 6) && decide ((M.length : Int) = R) && allIn M 0 (wrap64 (shl .i64 1 C - 1))
theorem IsTable_k (R C : Int) (M : List Int) (hM : M.length ≤ 4611686018427387904) (k : Nat) (hk : M.length < k) : impl_IsTable.f k R C M = some (isTab R C M) := by
  unfold impl_IsTable.f isTab
  simp only [within_eq, Option.bind_some]
  by_cases h1 : 1 ≤ R ∧ R ≤ 6
  · by_cases h2 : 1 ≤ C ∧ C ≤ 6
    · by_cases h3 : (M.length : Int) = R
      · rw [if_pos h3, if_pos (show 0 ≤ C by omega), allWithin_k M _ _ hM k hk]
        simp [h1, h2, h3]
      · rw [if_neg h3]
        simp [h1, h2, h3]
    · simp [h1, h2]
  · simp [h1]
theorem feGood_k (R C : Int) (M : List Int) (hM : M.length ≤ 4611686018427387904) (k : Nat) (hk : M.length < k) : spec_feGood.f k R C M = some (isTab R C M) := by
  unfold spec_feGood.f isTab
  simp only [l1In_eq, Option.bind_some]
  by_cases h1 : 1 ≤ R ∧ R ≤ 6
  · by_cases h2 : 1 ≤ C ∧ C ≤ 6
    · by_cases h3 : (M.length : Int) = R
      · rw [if_pos h3, if_pos (show 0 ≤ C by omega), l1All_k M _ _ hM k hk]
        simp [h1, h2, h3]
      · rw [if_neg h3]
        simp [h1, h2, h3]
    · simp [h1, h2]
  · simp [h1]
theorem toTable_k (R C : Int) (M : List Int) (hM : M.length ≤ 1048576) (k : Nat) (hk : M.length < k) : laws_toTable.f k R C M = some (R, C, M) := by
  unfold laws_toTable.f
  rw [toIntS_k M hM k hk]
  rfl
theorem eqTable_k (R C : Int) (M : List Int) (hM : M.length ≤ 1048576) (k : Nat) (hk : M.length < k) : laws_eqTable.f k R C M R C M = some true := by
  unfold laws_eqTable.f
  rw [if_pos rfl, if_pos rfl, eqIntS_k M (by omega) k hk]
  rfl
theorem szTable_eq (R C : Int) (M : List Int) (hm : M.length ≤ maxLen) : laws_szTable.f R C M 1048576 = some (if M.length ≤ 1048576 then 1048576 - (M.length : Int) else -1) := by
  unfold maxLen at hm
  unfold laws_szTable.f laws_szIntS.f
  rw [wrap_ok (by omega) (by omega)]
  by_cases h : M.length ≤ 1048576
  · rw [if_neg (by omega), if_pos h]
    simp only [Option.bind_some]
    rw [if_neg (by omega)]
  · rw [if_pos (by omega), if_neg h]
    simp

/-! Sets as numbers. -/
def andn (a b : Nat) : Nat := a ^^^ (a &&& b)
theorem andn_bit (a b i : Nat) : (andn a b).testBit i = (a.testBit i && !b.testBit i) := by
  unfold andn
  rw [Nat.testBit_xor, Nat.testBit_and]
  cases a.testBit i <;> cases b.testBit i <;> rfl
theorem wrap_i64_nat (n : Nat) (h : n < 2 ^ 63) : IntKind.i64.wrap (n : Int) = (n : Int) := by
  rw [IntKind.wrap_i64]
  have : (n : Int) < 9223372036854775808 := by omega
  omega
theorem ofInt_toNat (n : Nat) (h : n < 2 ^ 63) : (BitVec.ofInt 64 (n : Int)).toNat = n := by
  rw [BitVec.ofInt_natCast, BitVec.toNat_ofNat, Nat.mod_eq_of_lt (by omega)]
theorem and_nat (a b : Nat) (ha : a < 2 ^ 63) (hb : b < 2 ^ 63) : Go.bits .and .i64 (a : Int) (b : Int) = ((a &&& b : Nat) : Int) := by
  unfold Go.bits
  show IntKind.i64.wrap ((BitVec.ofInt 64 (a : Int) &&& BitVec.ofInt 64 (b : Int)).toNat : Int) = _
  rw [BitVec.toNat_and, ofInt_toNat a ha, ofInt_toNat b hb]
  exact wrap_i64_nat _ (Nat.lt_of_le_of_lt Nat.and_le_left ha)
theorem or_nat (a b : Nat) (ha : a < 2 ^ 63) (hb : b < 2 ^ 63) : Go.bits .or .i64 (a : Int) (b : Int) = ((a ||| b : Nat) : Int) := by
  unfold Go.bits
  show IntKind.i64.wrap ((BitVec.ofInt 64 (a : Int) ||| BitVec.ofInt 64 (b : Int)).toNat : Int) = _
  rw [BitVec.toNat_or, ofInt_toNat a ha, ofInt_toNat b hb]
  exact wrap_i64_nat _ (Nat.or_lt_two_pow ha hb)
theorem xor_nat (a b : Nat) (ha : a < 2 ^ 63) (hb : b < 2 ^ 63) : Go.bits .xor .i64 (a : Int) (b : Int) = ((a ^^^ b : Nat) : Int) := by
  unfold Go.bits
  show IntKind.i64.wrap ((BitVec.ofInt 64 (a : Int) ^^^ BitVec.ofInt 64 (b : Int)).toNat : Int) = _
  rw [BitVec.toNat_xor, ofInt_toNat a ha, ofInt_toNat b hb]
  exact wrap_i64_nat _ (Nat.xor_lt_two_pow ha hb)
theorem andn_le (a b : Nat) : andn a b ≤ a := Nat.le_of_testBit fun i h => by
  rw [andn_bit] at h
  cases h1 : a.testBit i
  · simp [h1] at h
  · rfl
theorem andNot_nat (a b : Nat) (ha : a < 2 ^ 63) (hb : b < 2 ^ 63) : Go.bits .andNot .i64 (a : Int) (b : Int) = ((andn a b : Nat) : Int) := by
  unfold Go.bits
  show IntKind.i64.wrap ((BitVec.ofInt 64 (a : Int) &&& ~~~ BitVec.ofInt 64 (b : Int)).toNat : Int) = _
  have e : (BitVec.ofInt 64 (a : Int) &&& ~~~ BitVec.ofInt 64 (b : Int)).toNat = andn a b := by
    apply Nat.eq_of_testBit_eq
    intro i
    rw [andn_bit, BitVec.toNat_and, Nat.testBit_and, ofInt_toNat a ha, BitVec.testBit_toNat, BitVec.getLsbD_not, BitVec.ofInt_natCast, BitVec.getLsbD_ofNat]
    by_cases hi : i < 64
    · rw [decide_eq_true hi]
      simp only [Bool.true_and]
    · have : a.testBit i = false := Nat.testBit_lt_two_pow (Nat.lt_of_lt_of_le ha (Nat.pow_le_pow_right (by omega) (by omega)))
      simp [this]
  rw [e]
  exact wrap_i64_nat _ (Nat.lt_of_le_of_lt (andn_le a b) ha)
theorem andn_zero (a b : Nat) : andn a b = 0 ↔ ∀ i, a.testBit i = true → b.testBit i = true := by
  constructor
  · intro h i hi
    have := andn_bit a b i
    rw [h, hi] at this
    cases hb : b.testBit i
    · simp [hb] at this
    · rfl
  · intro h
    apply Nat.eq_of_testBit_eq
    intro i
    rw [andn_bit]
    cases ha : a.testBit i
    · simp
    · simp [h i ha]
theorem andn_zero_le {a b : Nat} (h : andn a b = 0) : a ≤ b := Nat.le_of_testBit fun i hi => (andn_zero a b).1 h i hi
theorem andNot_le {p i : Int} (h0 : 0 ≤ p) (h1 : 0 ≤ i) (hp : p < 9223372036854775808) (hi : i < 9223372036854775808) (h : Go.bits .andNot .i64 p i = 0) : p ≤ i := by
  obtain ⟨a, rfl⟩ := Int.eq_ofNat_of_zero_le h0
  obtain ⟨b, rfl⟩ := Int.eq_ofNat_of_zero_le h1
  rw [andNot_nat a b (by omega) (by omega)] at h
  have := andn_zero_le (a := a) (b := b) (by omega)
  omega

/-- The set of the j < n for which q tells true. -/
def bitsum (q : Nat → Bool) : Nat → Nat
  | 0 => 0
  | j + 1 => bitsum q j ||| (if q j then 2 ^ j else 0)
theorem bitsum_lt (q : Nat → Bool) (n : Nat) : bitsum q n < 2 ^ n := by
  induction n with
  | zero => simp [bitsum]
  | succ n ih =>
    rw [bitsum]
    apply Nat.or_lt_two_pow
    · exact Nat.lt_of_lt_of_le ih (Nat.pow_le_pow_right (by omega) (by omega))
    · split
      · exact Nat.pow_lt_pow_right (by omega) (by omega)
      · exact Nat.two_pow_pos _
theorem bitsum_bit (q : Nat → Bool) (n i : Nat) : (bitsum q n).testBit i = (decide (i < n) && q i) := by
  induction n with
  | zero => simp [bitsum]
  | succ n ih =>
    rw [bitsum, Nat.testBit_or, ih]
    by_cases e : i = n
    · subst e
      cases h : q i <;> simp [Nat.testBit_two_pow_self]
    · have : (if q n then 2 ^ n else 0).testBit i = false := by
        split
        · rw [Nat.testBit_two_pow_of_ne (by omega)]
        · simp
      rw [this]
      by_cases h : i < n
      · simp [h, show i < n + 1 by omega]
      · simp [h, show ¬ i < n + 1 by omega]
theorem bitsum_congr {q q' : Nat → Bool} (n : Nat) (h : ∀ i, i < n → q i = q' i) : bitsum q n = bitsum q' n := by
  induction n with
  | zero => rfl
  | succ n ih => rw [bitsum, bitsum, ih (fun i hi => h i (by omega)), h n (by omega)]
theorem shl_one (j : Nat) (h : j < 62) : shl .i64 1 (j : Int) = ((2 ^ j : Nat) : Int) := by
  unfold shl
  have e : min (j : Int).toNat IntKind.i64.bits = j := by
    show min (j : Int).toNat 64 = j
    omega
  rw [e]
  have e2 : (1 : Int) * 2 ^ j = ((2 ^ j : Nat) : Int) := by simp
  rw [e2]
  exact wrap_i64_nat _ (Nat.pow_lt_pow_right (by omega) (by omega))
theorem or_shl (a j : Nat) (ha : a < 2 ^ 62) (hj : j < 62) : Go.bits .or .i64 (a : Int) (shl .i64 1 (j : Int)) = ((a ||| 2 ^ j : Nat) : Int) := by
  rw [shl_one j hj]
  exact or_nat a _ (Nat.lt_of_lt_of_le ha (by decide)) (Nat.pow_lt_pow_right (by omega) (by omega))
/-- The rows' sets. -/
def relList (R C : Nat) (p : Nat → Nat → Bool) : List Int := (List.range R).map fun i => ((bitsum (p i) C : Nat) : Int)
theorem relList_length (R C : Nat) (p : Nat → Nat → Bool) : (relList R C p).length = R := by simp [relList]
theorem relList_congr {R C : Nat} {p p' : Nat → Nat → Bool} (h : ∀ i j, i < R → j < C → p i j = p' i j) : relList R C p = relList R C p' := by
  unfold relList
  apply List.map_congr_left
  intro i hi
  rw [bitsum_congr C (fun j hj => h i j (by simpa using hi) hj)]
/-- A list that is being filled: the first i rows are whole, the row i has the columns < j, the others are 0. -/
def part (R C : Nat) (p : Nat → Nat → Bool) (i j : Nat) : List Int := (List.range R).map fun r => if r < i then ((bitsum (p r) C : Nat) : Int) else if r = i then ((bitsum (p r) j : Nat) : Int) else 0
theorem part_length (R C : Nat) (p : Nat → Nat → Bool) (i j : Nat) : (part R C p i j).length = R := by simp [part]
theorem part_start (R C : Nat) (p : Nat → Nat → Bool) : List.replicate R 0 = part R C p 0 0 := by
  apply List.ext_getElem?
  intro r
  by_cases h : r < R
  · simp [part, h, List.getElem?_replicate, bitsum]
  · rw [List.getElem?_eq_none (by simp; omega), List.getElem?_eq_none (by rw [part_length]; omega)]
theorem part_next (R C : Nat) (p : Nat → Nat → Bool) (i : Nat) : part R C p i C = part R C p (i + 1) 0 := by
  apply List.ext_getElem?
  intro r
  by_cases h : r < R
  · simp only [part, List.getElem?_map, List.getElem?_range h, Option.map_some]
    by_cases h1 : r < i
    · simp [h1, show r < i + 1 by omega]
    · by_cases h2 : r = i
      · simp [h2]
      · simp [h1, h2, show ¬ r < i + 1 by omega, bitsum]
  · rw [List.getElem?_eq_none (by rw [part_length]; omega), List.getElem?_eq_none (by rw [part_length]; omega)]
theorem part_end (R C : Nat) (p : Nat → Nat → Bool) : part R C p R 0 = relList R C p := by
  unfold part relList
  apply List.map_congr_left
  intro r hr
  rw [if_pos (by simpa using hr)]
theorem part_rd (R C : Nat) (p : Nat → Nat → Bool) (i j : Nat) (hi : i < R) : rd (part R C p i j) (i : Int) = ((bitsum (p i) j : Nat) : Int) := by
  rw [rd_nat]
  simp [part, List.getD_eq_getElem?_getD, hi]
theorem part_set (R C : Nat) (p : Nat → Nat → Bool) (i j : Nat) (hi : i < R) (hp : p i j = true) : (part R C p i j).set i ((bitsum (p i) j ||| 2 ^ j : Nat) : Int) = part R C p i (j + 1) := by
  apply List.ext_getElem?
  intro r
  by_cases h : r < R
  · rw [List.getElem?_set]
    simp only [part, List.getElem?_map, List.getElem?_range h, Option.map_some, List.length_map, List.length_range]
    by_cases e : i = r
    · subst e
      simp [h, bitsum, hp]
    · rw [if_neg e]
      simp [show ¬ r = i from fun h => e h.symm]
  · rw [List.getElem?_eq_none (by simp [part_length]; omega), List.getElem?_eq_none (by rw [part_length]; omega)]
theorem part_skip (R C : Nat) (p : Nat → Nat → Bool) (i j : Nat) (hp : p i j = false) : part R C p i j = part R C p i (j + 1) := by
  unfold part
  apply List.map_congr_left
  intro r _
  by_cases h1 : r < i
  · simp [h1]
  · by_cases h2 : r = i
    · subst h2
      simp [bitsum, hp]
    · simp [h1, h2]

/-- The columns of a table's marks, as a number. -/
theorem allIn_iff (l : List Int) (a b : Int) : allIn l a b = true ↔ ∀ x ∈ l, a ≤ x ∧ x ≤ b := by
  unfold allIn
  rw [List.all_eq_true]
  simp
/-- What a table is: its rows, its columns, and each row's marks as a number. -/
theorem isTab_iff (R C : Int) (M : List Int) : isTab R C M = true ↔ ∃ (r c : Nat) (ms : List Nat), R = (r : Int) ∧ C = (c : Int) ∧ M = ms.map (fun (x : Nat) => (x : Int)) ∧ 1 ≤ r ∧ r ≤ 6 ∧ 1 ≤ c ∧ c ≤ 6 ∧ ms.length = r ∧ ∀ x ∈ ms, x < 2 ^ c := by
  unfold isTab
  simp only [Bool.and_eq_true, decide_eq_true_eq, allIn_iff]
  constructor
  · rintro ⟨⟨⟨h1, h2⟩, h3⟩, h4⟩
    have ec : C = ((C.toNat : Nat) : Int) := by omega
    have e5 : wrap64 (shl .i64 1 C - 1) = ((2 ^ C.toNat - 1 : Nat) : Int) := by
      rw [ec, shl_one C.toNat (by omega)]
      have hp : 0 < 2 ^ C.toNat := Nat.two_pow_pos _
      have hq : 2 ^ C.toNat ≤ 2 ^ 6 := Nat.pow_le_pow_right (by omega) (by omega)
      have e6 : (((C.toNat : Nat) : Int)).toNat = C.toNat := by omega
      rw [e6, wrap_ok (by omega) (by omega)]
      omega
    rw [e5] at h4
    refine ⟨R.toNat, C.toNat, M.map Int.toNat, by omega, ec, ?_, by omega, by omega, by omega, by omega, by simp; omega, ?_⟩
    · rw [List.map_map]
      conv => lhs; rw [← List.map_id M]
      apply List.map_congr_left
      intro x hx
      have := h4 x hx
      show x = ((x.toNat : Nat) : Int)
      omega
    · intro x hx
      obtain ⟨y, hy, rfl⟩ := List.mem_map.1 hx
      have := h4 y hy
      have hp : 0 < 2 ^ C.toNat := Nat.two_pow_pos _
      omega
  · rintro ⟨r, c, ms, rfl, rfl, rfl, h1, h2, h3, h4, h5, h6⟩
    have hp : 0 < 2 ^ c := Nat.two_pow_pos _
    have hq : 2 ^ c ≤ 2 ^ 6 := Nat.pow_le_pow_right (by omega) (by omega)
    have e5 : wrap64 (shl .i64 1 (c : Int) - 1) = ((2 ^ c - 1 : Nat) : Int) := by
      rw [shl_one c (by omega), wrap_ok (by omega) (by omega)]
      omega
    refine ⟨⟨⟨by omega, by omega⟩, by simp; omega⟩, ?_⟩
    intro x hx
    obtain ⟨y, hy, rfl⟩ := List.mem_map.1 hx
    have := h6 y hy
    rw [e5]
    omega
/-- Is a row marked in a column? -/
def mk (ms : List Nat) (r c : Nat) : Bool := (ms.getD r 0).testBit c
theorem rd_map (ms : List Nat) (i : Nat) : rd (ms.map (fun (x : Nat) => (x : Int))) (i : Int) = ((ms.getD i 0 : Nat) : Int) := by
  rw [rd_nat]
  simp only [List.getD_eq_getElem?_getD, List.getElem?_map]
  cases ms[i]? <;> simp
theorem getD_lt {ms : List Nat} {b : Nat} (hb : 0 < b) (h : ∀ x ∈ ms, x < b) (i : Nat) : ms.getD i 0 < b := by
  rw [List.getD_eq_getElem?_getD]
  cases hx : ms[i]? with
  | none => simpa using hb
  | some x => exact h x (List.mem_of_getElem? hx)
/-- The bit of a number, as Go asks it. -/
theorem shr_nat (x c : Nat) (hc : c < 64) : shr .i64 (x : Int) (c : Int) = ((x / 2 ^ c : Nat) : Int) := by
  unfold shr
  have e : min (c : Int).toNat IntKind.i64.bits = c := by
    show min (c : Int).toNat 64 = c
    omega
  rw [e]
  simp
theorem bit_and (x c : Nat) (hx : x < 2 ^ 63) (hc : c < 64) : (Go.bits .and .i64 (shr .i64 (x : Int) (c : Int)) 1 == 1) = x.testBit c := by
  rw [shr_nat x c hc]
  have h1 : x / 2 ^ c < 2 ^ 63 := Nat.lt_of_le_of_lt (Nat.div_le_self _ _) hx
  have e : Go.bits .and .i64 ((x / 2 ^ c : Nat) : Int) 1 = ((x / 2 ^ c &&& 1 : Nat) : Int) := and_nat _ 1 h1 (by decide)
  rw [e, Nat.and_one_is_mod]
  have e2 : x.testBit c = decide (x / 2 ^ c % 2 = 1) := Nat.testBit_eq_decide_div_mod_eq
  rw [e2]
  by_cases h : x / 2 ^ c % 2 = 1
  · simp [h]
  · have : x / 2 ^ c % 2 = 0 := by omega
    simp [this]
theorem marked_k (R C : Int) (ms : List Nat) (r c : Nat) (hb : ∀ x ∈ ms, x < 64) (hr : r < ms.length) (hc : c < 60) : impl_Table_marked.f R C (ms.map (fun (x : Nat) => (x : Int))) (r : Int) (c : Int) = some (mk ms r c) := by
  unfold impl_Table_marked.f mk
  have := getD_lt (b := 64) (by omega) hb r
  rw [if_pos (by omega), if_pos (by simpa using hr), if_pos (by omega), rd_map, bit_and _ c (by omega) (by omega)]

theorem tmod_nat (n : Nat) : Int.tmod (n : Int) 2 = ((n % 2 : Nat) : Int) := by
  rw [Int.tmod_eq_emod_of_nonneg (by omega)]
  omega
theorem orHas_k (x i : Nat) (hi : i < 64) : spec_orHas.f (x : Int) (i : Int) = some (x.testBit i) := by
  unfold spec_orHas.f
  rw [if_pos (by omega), shr_nat x i hi, tmod_nat]
  have e2 : x.testBit i = decide (x / 2 ^ i % 2 = 1) := Nat.testBit_eq_decide_div_mod_eq
  rw [e2]
  congr 1
  by_cases h : x / 2 ^ i % 2 = 1
  · simp [h]
  · have : x / 2 ^ i % 2 = 0 := by omega
    simp [this]

theorem ba_push (l : List UInt8) (b : UInt8) : ((⟨l.toArray⟩ : ByteArray) ++ (⟨#[b]⟩ : ByteArray)) = ⟨(l ++ [b]).toArray⟩ := by
  apply ByteArray.ext
  simp [ByteArray.data_append]
theorem ba_size (l : List UInt8) : (⟨l.toArray⟩ : ByteArray).size = l.length := by simp [ByteArray.size]
/-- The digits of a row, in the columns before j. -/
def rowB (ms : List Nat) (r j : Nat) : List UInt8 := (List.range j).map fun c => if mk ms r c = true then 49 else 48
theorem rowB_length (ms : List Nat) (r j : Nat) : (rowB ms r j).length = j := by simp [rowB]
theorem rowB_succ (ms : List Nat) (r j : Nat) : rowB ms r (j + 1) = rowB ms r j ++ [if mk ms r j = true then 49 else 48] := by
  unfold rowB
  rw [List.range_succ, List.map_append]
  rfl
/-- The text of the rows before i. -/
def txt (C : Nat) (ms : List Nat) : Nat → List UInt8
  | 0 => []
  | i + 1 => (if 0 < i then txt C ms i ++ [47] else txt C ms i) ++ rowB ms i C
theorem txt_length (C : Nat) (ms : List Nat) (i : Nat) : (txt C ms i).length ≤ i * (C + 1) := by
  induction i with
  | zero => simp [txt]
  | succ i ih =>
    rw [txt, Nat.succ_mul, List.length_append, rowB_length]
    split
    · rw [List.length_append]
      simp
      omega
    · omega
theorem join_snoc (x : List UInt8) (r : List (List UInt8)) (y sep : List UInt8) : Lib.join (x :: r ++ [y]) sep = Lib.join (x :: r) sep ++ sep ++ y := by
  rw [List.cons_append, Lib.join_cons, Lib.join_cons]
  simp [Lib.joinTail]
theorem txt_join (C : Nat) (ms : List Nat) (i : Nat) : txt C ms i = Lib.join ((List.range i).map fun r => rowB ms r C) [47] := by
  induction i with
  | zero => rfl
  | succ i ih =>
    rw [txt, List.range_succ, List.map_append, ih]
    cases i with
    | zero =>
      simp [Lib.join_one, Lib.join_nil]
    | succ i =>
      rw [if_pos (by omega), List.range_succ_eq_map, List.map_cons]
      have := join_snoc (rowB ms 0 C) (((List.range i).map Nat.succ).map fun r => rowB ms r C) (rowB ms (i + 1) C) [47]
      simpa using this.symm
theorem tableText_l0 (R C : Nat) (ms : List Nat) (hR : ms.length = R) (hR6 : R ≤ 6) (hC : C ≤ 6) (hb : ∀ x ∈ ms, x < 64) : ∀ (d k i : Nat), i + d = R → d * (C + 3) < k →
    impl_tableText.l0 k ((List.range i).map fun r => (⟨(rowB ms r C).toArray⟩ : ByteArray)) (R : Int) (i : Int) (R : Int) (C : Int) (ms.map (fun (x : Nat) => (x : Int))) = some ⟨(txt C ms R).toArray⟩ := by
  intro d
  induction d with
  | zero =>
    intro k i hi hk
    obtain ⟨k, rfl⟩ : ∃ m, k = m + 1 := ⟨k - 1, by omega⟩
    simp only [impl_tableText.l0, strings_Join.f]
    have e : i = R := by omega
    subst e
    have ej : ((List.range i).map fun r => (⟨(rowB ms r C).toArray⟩ : ByteArray)).map (·.data.toList) = (List.range i).map fun r => rowB ms r C := by
      rw [List.map_map]
      apply List.map_congr_left
      intro r _
      simp
    have es : (⟨#[47]⟩ : ByteArray).data.toList = [47] := rfl
    have hlen := txt_length C ms i
    have hm : i * (C + 1) ≤ 6 * 7 := Nat.mul_le_mul hR6 (by omega)
    rw [if_neg (by omega), ej, ← txt_join, if_pos ⟨by simp; omega, by omega⟩]
    rfl
  | succ d ih =>
    intro k i hi hk
    rw [Nat.succ_mul] at hk
    obtain ⟨k, rfl⟩ : ∃ m, k = m + 1 := ⟨k - 1, by omega⟩
    simp only [impl_tableText.l0]
    rw [if_pos (by omega)]
    have inner : ∀ (e k j : Nat), j + e = C → d * (C + 3) + 1 + e < k → impl_tableText.l1 k ((List.range i).map fun r => (⟨(rowB ms r C).toArray⟩ : ByteArray)) (i : Int) (⟨(rowB ms i j).toArray⟩ : ByteArray) (R : Int) (i : Int) (C : Int) (j : Int) (R : Int) (C : Int) (ms.map (fun (x : Nat) => (x : Int))) = some ⟨(txt C ms R).toArray⟩ := by
      intro e
      induction e with
      | zero =>
        intro k j hj hk
        obtain ⟨k, rfl⟩ : ∃ m, k = m + 1 := ⟨k - 1, by omega⟩
        simp only [impl_tableText.l1]
        have e2 : j = C := by omega
        subst e2
        have next := ih k (i + 1) (by omega) (by omega)
        rw [List.range_succ, List.map_append] at next
        rw [if_neg (by omega), if_pos (by simp; omega), wrap_ok (by omega) (by omega), show ((i : Int) + 1) = ((i + 1 : Nat) : Int) by omega]
        exact next
      | succ e ihe =>
        intro k j hj hk
        obtain ⟨k, rfl⟩ : ∃ m, k = m + 1 := ⟨k - 1, by omega⟩
        simp only [impl_tableText.l1]
        have next := ihe k (j + 1) (by omega) (by omega)
        rw [rowB_succ] at next
        rw [if_pos (by omega), marked_k (R : Int) (C : Int) ms i j hb (by omega) (by omega), ba_push, ba_push, ba_size, rowB_length, if_pos (by omega), wrap_ok (by omega) (by omega), show ((j : Int) + 1) = ((j + 1 : Nat) : Int) by omega]
        simp only [Option.bind_some]
        cases h : mk ms i j
        · rw [if_neg (by simp), if_pos (by omega)]
          rw [h] at next
          exact next
        · rw [if_pos rfl]
          rw [h] at next
          exact next
    exact inner C k 0 (by omega) (by omega)
theorem tableText_k (R C : Nat) (ms : List Nat) (hR : ms.length = R) (hR6 : R ≤ 6) (hC : C ≤ 6) (hb : ∀ x ∈ ms, x < 64) (k : Nat) (hk : 60 < k) :
    impl_tableText.f k (R : Int) (C : Int) (ms.map (fun (x : Nat) => (x : Int))) = some ⟨(txt C ms R).toArray⟩ := by
  unfold impl_tableText.f
  have hm : R * (C + 3) ≤ 6 * 9 := Nat.mul_le_mul hR6 (by omega)
  exact tableText_l0 R C ms hR hR6 hC hb R k 0 (by omega) (by omega)
theorem feText_l0 (R C : Nat) (ms : List Nat) (hR : ms.length = R) (hR6 : R ≤ 6) (hC : C ≤ 6) (hb : ∀ x ∈ ms, x < 64) : ∀ (d k i : Nat), i + d = R → d * (C + 4) < k →
    spec_feText.l0 k (⟨(txt C ms i).toArray⟩ : ByteArray) (ms.map (fun (x : Nat) => (x : Int))) (R : Int) (i : Int) (R : Int) (C : Int) (ms.map (fun (x : Nat) => (x : Int))) = some ⟨(txt C ms R).toArray⟩ := by
  intro d
  have lm : ((ms.map (fun (x : Nat) => (x : Int))).length : Int) = (R : Int) := by simp [hR]
  induction d with
  | zero =>
    intro k i hi hk
    obtain ⟨k, rfl⟩ : ∃ m, k = m + 1 := ⟨k - 1, by omega⟩
    simp only [spec_feText.l0]
    have e : i = R := by omega
    rw [if_neg (by omega), e]
  | succ d ih =>
    intro k i hi hk
    rw [Nat.succ_mul] at hk
    obtain ⟨k, rfl⟩ : ∃ m, k = m + 2 := ⟨k - 2, by omega⟩
    have hlen := txt_length C ms i
    have hm : i * (C + 1) ≤ 6 * 7 := Nat.mul_le_mul (by omega) (by omega)
    have a1 := getD_lt (b := 64) (by omega) hb i
    have inner : ∀ (e k j : Nat), j + e = C → d * (C + 4) + 1 + e < k → spec_feText.l1 k (⟨((if 0 < i then txt C ms i ++ [47] else txt C ms i) ++ rowB ms i j).toArray⟩ : ByteArray) ((ms.getD i 0 : Nat) : Int) (j : Int) (ms.map (fun (x : Nat) => (x : Int))) (R : Int) (i : Int) (R : Int) (C : Int) (ms.map (fun (x : Nat) => (x : Int))) = some ⟨(txt C ms R).toArray⟩ := by
      intro e
      induction e with
      | zero =>
        intro k j hj hk
        obtain ⟨k, rfl⟩ : ∃ m, k = m + 1 := ⟨k - 1, by omega⟩
        simp only [spec_feText.l1]
        have e2 : j = C := by omega
        subst e2
        rw [if_neg (by omega), wrap_ok (by omega) (by omega), show ((i : Int) + 1) = ((i + 1 : Nat) : Int) by omega]
        exact ih k (i + 1) (by omega) (by omega)
      | succ e ihe =>
        intro k j hj hk
        obtain ⟨k, rfl⟩ : ∃ m, k = m + 1 := ⟨k - 1, by omega⟩
        simp only [spec_feText.l1]
        have next := ihe k (j + 1) (by omega) (by omega)
        rw [rowB_succ, ← List.append_assoc] at next
        have em : (ms.getD i 0).testBit j = mk ms i j := rfl
        have hl2 : ((if 0 < i then txt C ms i ++ [47] else txt C ms i) ++ rowB ms i j).length ≤ 100 := by
          rw [List.length_append, rowB_length]
          split
          · rw [List.length_append]
            simp
            omega
          · omega
        rw [if_pos (by omega), orHas_k _ j (by omega), em, ba_push, ba_push, ba_size, if_pos (by omega), wrap_ok (by omega) (by omega), show ((j : Int) + 1) = ((j + 1 : Nat) : Int) by omega]
        simp only [Option.bind_some]
        cases h : mk ms i j
        · rw [if_neg (by simp), if_pos (by omega)]
          rw [h] at next
          exact next
        · rw [if_pos rfl]
          rw [h] at next
          exact next
    have start := inner C k 0 (by omega) (by omega)
    have e0 : rowB ms i 0 = [] := rfl
    rw [e0, List.append_nil] at start
    rw [spec_feText.l0, if_pos (by omega), if_pos (by omega), if_pos (by omega), rd_map]
    by_cases h0 : 0 < i
    · rw [if_pos h0] at start
      rw [if_pos (by omega), ba_size, if_pos (by omega), ba_push, spec_feText.j1]
      exact start
    · rw [if_neg h0] at start
      rw [if_neg (by omega), spec_feText.j1]
      exact start
theorem feText_k (R C : Nat) (ms : List Nat) (hR : ms.length = R) (hR6 : R ≤ 6) (hC : C ≤ 6) (hb : ∀ x ∈ ms, x < 64) (k : Nat) (hk : 70 < k) :
    spec_feText.f k (R : Int) (C : Int) (ms.map (fun (x : Nat) => (x : Int))) = some ⟨(txt C ms R).toArray⟩ := by
  unfold spec_feText.f
  have lm : ((ms.map (fun (x : Nat) => (x : Int))).length : Int) = (R : Int) := by simp [hR]
  have hm : R * (C + 4) ≤ 6 * 10 := Nat.mul_le_mul hR6 (by omega)
  rw [lm]
  exact feText_l0 R C ms hR hR6 hC hb R k 0 (by omega) (by omega)

theorem FnExactTableText : laws_FnExactTableText.Pure := by
  intro R C M _ _ hm _
  by_cases h : M.length ≤ 1048576
  · refine ⟨M.length + 300, ?_⟩
    have H : ∃ y z, (∀ k, M.length + 100 < k → impl_TableText.f k R C M = some (y, z)) ∧ (∀ k, M.length + 100 < k → spec_TableText.f k R C M = some (y, z)) := by
      cases hT : isTab R C M
      · refine ⟨(⟨#[]⟩ : ByteArray), false, fun k hk => ?_, fun k hk => ?_⟩
        · unfold impl_TableText.f
          rw [IsTable_k R C M (by omega) k (by omega), hT]
          rfl
        · unfold spec_TableText.f
          rw [feGood_k R C M (by omega) k (by omega), hT]
          rfl
      · obtain ⟨r, c, ms, rfl, rfl, rfl, h1, h2, h3, h4, h5, h6⟩ := (isTab_iff R C M).1 hT
        have h64 : ∀ x ∈ ms, x < 64 := fun x hx => Nat.lt_of_lt_of_le (h6 x hx) (Nat.pow_le_pow_right (n := 2) (by omega) h4)
        refine ⟨⟨(txt c ms r).toArray⟩, true, fun k hk => ?_, fun k hk => ?_⟩
        · unfold impl_TableText.f
          rw [IsTable_k _ _ _ (by omega) k (by omega), hT]
          simp only [Option.bind_some, if_true]
          rw [tableText_k r c ms h5 h2 h4 h64 k (by omega)]
          rfl
        · unfold spec_TableText.f
          rw [feGood_k _ _ _ (by omega) k (by omega), hT]
          simp only [Option.bind_some, if_true]
          rw [feText_k r c ms h5 h2 h4 h64 k (by omega)]
          rfl
    obtain ⟨y, z, hI, hS⟩ := H
    unfold laws_FnExactTableText.f
    rw [szTable_eq R C M hm, if_pos h]
    simp only [Option.bind_some]
    rw [if_neg (by omega)]
    repeat (first
      | (rw [toTable_k R C M h _ (by omega)]; simp only [Option.bind_some])
      | (rw [hS _ (by omega)]; simp only [Option.bind_some])
      | (rw [hI _ (by omega)]; simp only [Option.bind_some])
      | (rw [eqTable_k _ _ _ (by omega) _ (by omega)]; simp only [Option.bind_some])
      | (rw [laws_FnExactTableText.j0]; simp only [Bool.false_eq_true, if_false, if_true])
      | (simp only [if_true, Bool.false_eq_true, if_false, bne_self_eq_false])
      | (rw [if_pos rfl]))
  · refine ⟨1, ?_⟩
    unfold laws_FnExactTableText.f
    rw [szTable_eq R C M hm, if_neg h]
    simp

end Go.Proofs.Ytcjofpajmhddkaa.Pure
