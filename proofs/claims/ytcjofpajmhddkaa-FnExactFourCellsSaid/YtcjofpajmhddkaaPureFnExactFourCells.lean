/- FourCells: the program returns for every triple of rows, columns and marks the list that the reference returns; no condition. -/
import Derived.Test.YtcjofpajmhddkaaPFnExactFourCellsx4
namespace Go.Proofs.Ytcjofpajmhddkaa.Pure
open Go.RowKit Go.Proofs.Ytcjofpajmhddkaa.PFnExactFourCells Go.Proofs.YtcjofpajmhddkaaW.PrintWords Go.Proofs.YtcjofpajmhddkaaW.PrintLast Go.Proofs.YtcjofpajmhddkaaW.PrintMore
set_option linter.unusedVariables false
set_option linter.unusedSimpArgs false

theorem wrap_ok {x : Int} (h0 : -9223372036854775808 ≤ x) (h1 : x < 9223372036854775808) : wrap64 x = x := by unfold wrap64; omega
theorem wf_bounds {x : Int} (h : (Lit.int .i64 x).wf = true) : -9223372036854775808 ≤ x ∧ x < 9223372036854775808 := by
  have e : IntKind.i64.min ≤ x ∧ x ≤ 9223372036854775807 := by simpa [Lit.wf] using h
  have m : IntKind.i64.min = -9223372036854775808 := by decide
  omega
theorem rd_nat (l : List Int) (i : Nat) : rd l (i : Int) = l.getD i 0 := by simp [rd]

theorem toIntS_l0 (l : List Int) (hl : l.length ≤ 4611686018427387904) : ∀ (d k i : Nat) (x : List Int), i + d = l.length → d < k → x.length = l.length → (∀ j, j < i → x[j]? = l[j]?) → laws_toIntS.l0 k l x (i : Int) = some l := by
  intro d
  induction d with
  | zero =>
    intro k i x h hk hx hj
    obtain ⟨k, rfl⟩ : ∃ m, k = m + 1 := ⟨k - 1, by omega⟩
    simp only [laws_toIntS.l0]
    rw [if_neg (by omega)]
    congr 1
    apply List.ext_getElem?
    intro j
    by_cases hji : j < i
    · exact hj j hji
    · rw [List.getElem?_eq_none (by omega), List.getElem?_eq_none (by omega)]
  | succ d ih =>
    intro k i x h hk hx hj
    obtain ⟨k, rfl⟩ : ∃ m, k = m + 1 := ⟨k - 1, by omega⟩
    simp only [laws_toIntS.l0]
    rw [if_pos (by omega), if_pos (by omega), if_pos (by omega), wrap_ok (by omega) (by omega)]
    have e : ((i : Int) + 1) = ((i + 1 : Nat) : Int) := by omega
    rw [e]
    refine ih k (i + 1) _ (by omega) (by omega) (by simpa using hx) ?_
    intro j hji
    have e2 : (i : Int).toNat = i := by omega
    rw [e2, List.getElem?_set]
    by_cases hj2 : i = j
    · subst hj2
      rw [if_pos rfl, if_pos (by omega), rd_nat, List.getElem?_eq_getElem (by omega)]
      simp
      rw [List.getElem?_eq_getElem (by omega)]
      rfl
    · rw [if_neg hj2]
      exact hj j (by omega)
theorem toIntS_k (l : List Int) (hl : l.length ≤ 1048576) (k : Nat) (hk : l.length < k) : laws_toIntS.f k l = some l := by
  unfold laws_toIntS.f
  rw [if_pos (by omega), if_pos (by omega)]
  exact toIntS_l0 l (by omega) l.length k 0 _ (by omega) hk (by simp) (by intro j hj; omega)
theorem toIntS_ev (l : List Int) (hl : l.length ≤ 1048576) : Ev (fun k => laws_toIntS.f k l) l := ⟨l.length + 1, fun k hk => toIntS_k l hl k (by omega)⟩

theorem eqIntS_l0 (l : List Int) (hl : l.length ≤ 4611686018427387904) : ∀ (d k i : Nat), i + d = l.length → d < k → laws_eqIntS.l0 k l l (i : Int) = some true := by
  intro d
  induction d with
  | zero =>
    intro k i h hk
    obtain ⟨k, rfl⟩ : ∃ m, k = m + 1 := ⟨k - 1, by omega⟩
    simp only [laws_eqIntS.l0]
    rw [if_neg (by omega)]
  | succ d ih =>
    intro k i h hk
    obtain ⟨k, rfl⟩ : ∃ m, k = m + 1 := ⟨k - 1, by omega⟩
    simp only [laws_eqIntS.l0]
    rw [if_pos (by omega), if_pos (by omega), if_pos (by omega), if_true, wrap_ok (by omega) (by omega)]
    have e : ((i : Int) + 1) = ((i + 1 : Nat) : Int) := by omega
    rw [e]
    exact ih k (i + 1) (by omega) (by omega)
theorem eqIntS_k (l : List Int) (hl : l.length ≤ 4611686018427387904) (k : Nat) (hk : l.length < k) : laws_eqIntS.f k l l = some true := by
  unfold laws_eqIntS.f
  rw [if_pos rfl]
  exact eqIntS_l0 l hl l.length k 0 (by omega) hk
theorem eqIntS_ev (l : List Int) (hl : l.length ≤ 4611686018427387904) : Ev (fun k => laws_eqIntS.f k l l) true := ⟨l.length + 1, fun k hk => eqIntS_k l hl k (by omega)⟩

theorem within_eq (a b c : Int) : impl_within.f a b c = some (decide (b ≤ a ∧ a ≤ c)) := by
  unfold impl_within.f
  by_cases h : a ≥ b <;> simp [h] <;> omega
theorem l1In_eq (a b c : Int) : spec_l1In.f a b c = some (decide (b ≤ a ∧ a ≤ c)) := by
  unfold spec_l1In.f
  by_cases h : a ≥ b <;> simp [h] <;> omega

def allIn (l : List Int) (a b : Int) : Bool := l.all fun x => decide (a ≤ x ∧ x ≤ b)
theorem getD_drop (l : List Int) (i : Nat) (h : i < l.length) : l.drop i = l.getD i 0 :: l.drop (i + 1) := by
  rw [List.drop_eq_getElem_cons h]
  simp [h]
theorem allWithin_l0 (l : List Int) (a b : Int) (hl : l.length ≤ 4611686018427387904) : ∀ (d k i : Nat), i + d = l.length → d < k → impl_allWithin.l0 k a b l (l.length : Int) (i : Int) = some (allIn (l.drop i) a b) := by
  intro d
  induction d with
  | zero =>
    intro k i h hk
    obtain ⟨k, rfl⟩ : ∃ m, k = m + 1 := ⟨k - 1, by omega⟩
    simp only [impl_allWithin.l0]
    rw [if_neg (by omega), List.drop_eq_nil_of_le (by omega)]
    rfl
  | succ d ih =>
    intro k i h hk
    obtain ⟨k, rfl⟩ : ∃ m, k = m + 1 := ⟨k - 1, by omega⟩
    simp only [impl_allWithin.l0]
    rw [if_pos (by omega), if_pos (by omega), if_pos (by omega), wrap_ok (by omega) (by omega), within_eq, getD_drop l i (by omega), rd_nat]
    have e : ((i : Int) + 1) = ((i + 1 : Nat) : Int) := by omega
    rw [e, ih k (i + 1) (by omega) (by omega)]
    simp only [Option.bind_some, allIn, List.all_cons]
    cases decide (a ≤ l.getD i 0 ∧ l.getD i 0 ≤ b) <;> simp
theorem allWithin_k (l : List Int) (a b : Int) (hl : l.length ≤ 4611686018427387904) (k : Nat) (hk : l.length < k) : impl_allWithin.f k l a b = some (allIn l a b) := by
  unfold impl_allWithin.f
  exact allWithin_l0 l a b hl l.length k 0 (by omega) hk
theorem l1All_l0 (l : List Int) (a b : Int) (hl : l.length ≤ 4611686018427387904) : ∀ (d k i : Nat), i + d = l.length → d < k → spec_l1All.l0 k a b l (l.length : Int) (i : Int) = some (allIn (l.drop i) a b) := by
  intro d
  induction d with
  | zero =>
    intro k i h hk
    obtain ⟨k, rfl⟩ : ∃ m, k = m + 1 := ⟨k - 1, by omega⟩
    simp only [spec_l1All.l0]
    rw [if_neg (by omega), List.drop_eq_nil_of_le (by omega)]
    rfl
  | succ d ih =>
    intro k i h hk
    obtain ⟨k, rfl⟩ : ∃ m, k = m + 1 := ⟨k - 1, by omega⟩
    simp only [spec_l1All.l0]
    rw [if_pos (by omega), if_pos (by omega), if_pos (by omega), wrap_ok (by omega) (by omega), l1In_eq, getD_drop l i (by omega), rd_nat]
    have e : ((i : Int) + 1) = ((i + 1 : Nat) : Int) := by omega
    rw [e, ih k (i + 1) (by omega) (by omega)]
    simp only [Option.bind_some, allIn, List.all_cons]
    cases decide (a ≤ l.getD i 0 ∧ l.getD i 0 ≤ b) <;> simp
theorem l1All_k (l : List Int) (a b : Int) (hl : l.length ≤ 4611686018427387904) (k : Nat) (hk : l.length < k) : spec_l1All.f k l a b = some (allIn l a b) := by
  unfold spec_l1All.f
  exact l1All_l0 l a b hl l.length k 0 (by omega) hk

/-- A table, told as data. -/
def isTab (R C : Int) (M : List Int) : Bool := decide (1 ≤ R ∧ R ≤ 6) && decide (1 ≤ C ∧ C ≤ 6) && decide ((M.length : Int) = R) && allIn M 0 (wrap64 (shl .i64 1 C - 1))
theorem IsTable_k (R C : Int) (M : List Int) (hM : M.length ≤ 4611686018427387904) (k : Nat) (hk : M.length < k) : impl_IsTable.f k R C M = some (isTab R C M) := by
  unfold impl_IsTable.f isTab
  simp only [within_eq, Option.bind_some]
  by_cases h1 : 1 ≤ R ∧ R ≤ 6
  · by_cases h2 : 1 ≤ C ∧ C ≤ 6
    · by_cases h3 : (M.length : Int) = R
      · rw [if_pos h3, if_pos (show 0 ≤ C by omega), allWithin_k M _ _ hM k hk]
        simp [h1, h2, h3]
      · rw [if_neg h3]
        simp [h1, h2, h3]
    · simp [h1, h2]
  · simp [h1]
theorem feGood_k (R C : Int) (M : List Int) (hM : M.length ≤ 4611686018427387904) (k : Nat) (hk : M.length < k) : spec_feGood.f k R C M = some (isTab R C M) := by
  unfold spec_feGood.f isTab
  simp only [l1In_eq, Option.bind_some]
  by_cases h1 : 1 ≤ R ∧ R ≤ 6
  · by_cases h2 : 1 ≤ C ∧ C ≤ 6
    · by_cases h3 : (M.length : Int) = R
      · rw [if_pos h3, if_pos (show 0 ≤ C by omega), l1All_k M _ _ hM k hk]
        simp [h1, h2, h3]
      · rw [if_neg h3]
        simp [h1, h2, h3]
    · simp [h1, h2]
  · simp [h1]
theorem toTable_k (R C : Int) (M : List Int) (hM : M.length ≤ 1048576) (k : Nat) (hk : M.length < k) : laws_toTable.f k R C M = some (R, C, M) := by
  unfold laws_toTable.f
  rw [toIntS_k M hM k hk]
  rfl
theorem eqTable_k (R C : Int) (M : List Int) (hM : M.length ≤ 1048576) (k : Nat) (hk : M.length < k) : laws_eqTable.f k R C M R C M = some true := by
  unfold laws_eqTable.f
  rw [if_pos rfl, if_pos rfl, eqIntS_k M (by omega) k hk]
  rfl
theorem szTable_eq (R C : Int) (M : List Int) (hm : M.length ≤ maxLen) : laws_szTable.f R C M 1048576 = some (if M.length ≤ 1048576 then 1048576 - (M.length : Int) else -1) := by
  unfold maxLen at hm
  unfold laws_szTable.f laws_szIntS.f
  rw [wrap_ok (by omega) (by omega)]
  by_cases h : M.length ≤ 1048576
  · rw [if_neg (by omega), if_pos h]
    simp only [Option.bind_some]
    rw [if_neg (by omega)]
  · rw [if_pos (by omega), if_neg h]
    simp

/-! Sets as numbers. -/
def andn (a b : Nat) : Nat := a ^^^ (a &&& b)
theorem andn_bit (a b i : Nat) : (andn a b).testBit i = (a.testBit i && !b.testBit i) := by
  unfold andn
  rw [Nat.testBit_xor, Nat.testBit_and]
  cases a.testBit i <;> cases b.testBit i <;> rfl
theorem wrap_i64_nat (n : Nat) (h : n < 2 ^ 63) : IntKind.i64.wrap (n : Int) = (n : Int) := by
  rw [IntKind.wrap_i64]
  have : (n : Int) < 9223372036854775808 := by omega
  omega
theorem ofInt_toNat (n : Nat) (h : n < 2 ^ 63) : (BitVec.ofInt 64 (n : Int)).toNat = n := by
  rw [BitVec.ofInt_natCast, BitVec.toNat_ofNat, Nat.mod_eq_of_lt (by omega)]
theorem and_nat (a b : Nat) (ha : a < 2 ^ 63) (hb : b < 2 ^ 63) : Go.bits .and .i64 (a : Int) (b : Int) = ((a &&& b : Nat) : Int) := by
  unfold Go.bits
  show IntKind.i64.wrap ((BitVec.ofInt 64 (a : Int) &&& BitVec.ofInt 64 (b : Int)).toNat : Int) = _
  rw [BitVec.toNat_and, ofInt_toNat a ha, ofInt_toNat b hb]
  exact wrap_i64_nat _ (Nat.lt_of_le_of_lt Nat.and_le_left ha)
theorem or_nat (a b : Nat) (ha : a < 2 ^ 63) (hb : b < 2 ^ 63) : Go.bits .or .i64 (a : Int) (b : Int) = ((a ||| b : Nat) : Int) := by
  unfold Go.bits
  show IntKind.i64.wrap ((BitVec.ofInt 64 (a : Int) ||| BitVec.ofInt 64 (b : Int)).toNat : Int) = _
  rw [BitVec.toNat_or, ofInt_toNat a ha, ofInt_toNat b hb]
  exact wrap_i64_nat _ (Nat.or_lt_two_pow ha hb)
theorem xor_nat (a b : Nat) (ha : a < 2 ^ 63) (hb : b < 2 ^ 63) : Go.bits .xor .i64 (a : Int) (b : Int) = ((a ^^^ b : Nat) : Int) := by
  unfold Go.bits
  show IntKind.i64.wrap ((BitVec.ofInt 64 (a : Int) ^^^ BitVec.ofInt 64 (b : Int)).toNat : Int) = _
  rw [BitVec.toNat_xor, ofInt_toNat a ha, ofInt_toNat b hb]
  exact wrap_i64_nat _ (Nat.xor_lt_two_pow ha hb)
theorem andn_le (a b : Nat) : andn a b ≤ a := Nat.le_of_testBit fun i h => by
  rw [andn_bit] at h
  cases h1 : a.testBit i
  · simp [h1] at h
  · rfl
theorem andNot_nat (a b : Nat) (ha : a < 2 ^ 63) (hb : b < 2 ^ 63) : Go.bits .andNot .i64 (a : Int) (b : Int) = ((andn a b : Nat) : Int) := by
  unfold Go.bits
  show IntKind.i64.wrap ((BitVec.ofInt 64 (a : Int) &&& ~~~ BitVec.ofInt 64 (b : Int)).toNat : Int) = _
  have e : (BitVec.ofInt 64 (a : Int) &&& ~~~ BitVec.ofInt 64 (b : Int)).toNat = andn a b := by
    apply Nat.eq_of_testBit_eq
    intro i
    rw [andn_bit, BitVec.toNat_and, Nat.testBit_and, ofInt_toNat a ha, BitVec.testBit_toNat, BitVec.getLsbD_not, BitVec.ofInt_natCast, BitVec.getLsbD_ofNat]
    by_cases hi : i < 64
    · rw [decide_eq_true hi]
      simp only [Bool.true_and]
    · have : a.testBit i = false := Nat.testBit_lt_two_pow (Nat.lt_of_lt_of_le ha (Nat.pow_le_pow_right (by omega) (by omega)))
      simp [this]
  rw [e]
  exact wrap_i64_nat _ (Nat.lt_of_le_of_lt (andn_le a b) ha)
theorem andn_zero (a b : Nat) : andn a b = 0 ↔ ∀ i, a.testBit i = true → b.testBit i = true := by
  constructor
  · intro h i hi
    have := andn_bit a b i
    rw [h, hi] at this
    cases hb : b.testBit i
    · simp [hb] at this
    · rfl
  · intro h
    apply Nat.eq_of_testBit_eq
    intro i
    rw [andn_bit]
    cases ha : a.testBit i
    · simp
    · simp [h i ha]
theorem andn_zero_le {a b : Nat} (h : andn a b = 0) : a ≤ b := Nat.le_of_testBit fun i hi => (andn_zero a b).1 h i hi
theorem andNot_le {p i : Int} (h0 : 0 ≤ p) (h1 : 0 ≤ i) (hp : p < 9223372036854775808) (hi : i < 9223372036854775808) (h : Go.bits .andNot .i64 p i = 0) : p ≤ i := by
  obtain ⟨a, rfl⟩ := Int.eq_ofNat_of_zero_le h0
  obtain ⟨b, rfl⟩ := Int.eq_ofNat_of_zero_le h1
  rw [andNot_nat a b (by omega) (by omega)] at h
  have := andn_zero_le (a := a) (b := b) (by omega)
  omega

/-- The numbers a, a + 1, .. -/
def iota (a : Int) (n : Nat) : List Int := (List.range n).map fun (j : Nat) => a + (j : Int)
theorem iota_length (a : Int) (n : Nat) : (iota a n).length = n := by simp [iota]
theorem markIntS_l0 (a : Int) (h0 : 0 ≤ a) : ∀ (d k i : Nat) (l : List Int), i + d = l.length → d < k → a + l.length < 4611686018427387904 → (∀ j, j < i → l[j]? = some (a + (j : Int))) →
    laws_markIntS.l0 k l (a + (i : Int)) (i : Int) = some (a + (l.length : Int), iota a l.length) := by
  intro d
  induction d with
  | zero =>
    intro k i l h hk ha hj
    obtain ⟨k, rfl⟩ : ∃ m, k = m + 1 := ⟨k - 1, by omega⟩
    simp only [laws_markIntS.l0]
    rw [if_neg (by omega)]
    have e : i = l.length := by omega
    subst e
    have e2 : l = iota a l.length := by
      apply List.ext_getElem?
      intro j
      by_cases hj2 : j < l.length
      · rw [hj j hj2]
        simp [iota, hj2]
      · rw [List.getElem?_eq_none (by omega), List.getElem?_eq_none (by rw [iota_length]; omega)]
    rw [← e2]
  | succ d ih =>
    intro k i l h hk ha hj
    obtain ⟨k, rfl⟩ : ∃ m, k = m + 1 := ⟨k - 1, by omega⟩
    simp only [laws_markIntS.l0]
    rw [if_pos (by omega), if_pos (by omega), wrap_ok (by omega) (by omega), wrap_ok (by omega) (by omega)]
    have e1 : ((i : Int) + 1) = ((i + 1 : Nat) : Int) := by omega
    have e2 : (a + (i : Int) + 1) = a + ((i + 1 : Nat) : Int) := by omega
    have e3 : (i : Int).toNat = i := by omega
    rw [e1, e2, e3]
    have := ih k (i + 1) (l.set i (a + (i : Int))) (by simp; omega) (by omega) (by simpa using ha) (by
      intro j hji
      rw [List.getElem?_set]
      by_cases e : i = j
      · subst e
        rw [if_pos rfl, if_pos (by omega)]
      · rw [if_neg e]
        exact hj j (by omega))
    simpa using this
theorem markIntS_k (l : List Int) (a : Int) (h0 : 0 ≤ a) (ha : a + l.length < 4611686018427387904) (k : Nat) (hk : l.length < k) : laws_markIntS.f k l a = some (a + (l.length : Int), iota a l.length) := by
  unfold laws_markIntS.f
  have := markIntS_l0 a h0 l.length k 0 l (by omega) hk ha (by intro j hj; omega)
  simpa using this
theorem heldIntS_l0 (a : Int) (n : Nat) (h0 : 0 ≤ a) (ha : a + n < 4611686018427387904) : ∀ (d k i : Nat), i + d = n → d < k → laws_heldIntS.l0 k (iota a n) (a + (i : Int)) (i : Int) = some (a + (n : Int)) := by
  intro d
  induction d with
  | zero =>
    intro k i h hk
    obtain ⟨k, rfl⟩ : ∃ m, k = m + 1 := ⟨k - 1, by omega⟩
    simp only [laws_heldIntS.l0, iota_length]
    rw [if_neg (by omega)]
    congr 1
    omega
  | succ d ih =>
    intro k i h hk
    obtain ⟨k, rfl⟩ : ∃ m, k = m + 1 := ⟨k - 1, by omega⟩
    simp only [laws_heldIntS.l0, iota_length]
    have e4 : rd (iota a n) (i : Int) = a + (i : Int) := by
      rw [rd_nat]
      simp [iota, List.getD_eq_getElem?_getD, show i < n by omega]
    rw [if_pos (by omega), if_pos (by omega), if_pos e4, wrap_ok (by omega) (by omega), wrap_ok (by omega) (by omega)]
    have e1 : ((i : Int) + 1) = ((i + 1 : Nat) : Int) := by omega
    have e2 : (a + (i : Int) + 1) = a + ((i + 1 : Nat) : Int) := by omega
    rw [e1, e2]
    exact ih k (i + 1) (by omega) (by omega)
theorem heldIntS_k (a : Int) (n : Nat) (h0 : 0 ≤ a) (ha : a + n < 4611686018427387904) (k : Nat) (hk : n < k) : laws_heldIntS.f k (iota a n) a = some (a + (n : Int)) := by
  unfold laws_heldIntS.f
  have := heldIntS_l0 a n h0 ha n k 0 (by omega) hk
  simpa using this
theorem one_add_nonneg (m : Nat) : ¬ (1 + (m : Int) < 0) := by omega

/-- The set of the j < n for which q tells true. -/
def bitsum (q : Nat → Bool) : Nat → Nat
  | 0 => 0
  | j + 1 => bitsum q j ||| (if q j then 2 ^ j else 0)
theorem bitsum_lt (q : Nat → Bool) (n : Nat) : bitsum q n < 2 ^ n := by
  induction n with
  | zero => simp [bitsum]
  | succ n ih =>
    rw [bitsum]
    apply Nat.or_lt_two_pow
    · exact Nat.lt_of_lt_of_le ih (Nat.pow_le_pow_right (by omega) (by omega))
    · split
      · exact Nat.pow_lt_pow_right (by omega) (by omega)
      · exact Nat.two_pow_pos _
theorem bitsum_bit (q : Nat → Bool) (n i : Nat) : (bitsum q n).testBit i = (decide (i < n) && q i) := by
  induction n with
  | zero => simp [bitsum]
  | succ n ih =>
    rw [bitsum, Nat.testBit_or, ih]
    by_cases e : i = n
    · subst e
      cases h : q i <;> simp [Nat.testBit_two_pow_self]
    · have : (if q n then 2 ^ n else 0).testBit i = false := by
        split
        · rw [Nat.testBit_two_pow_of_ne (by omega)]
        · simp
      rw [this]
      by_cases h : i < n
      · simp [h, show i < n + 1 by omega]
      · simp [h, show ¬ i < n + 1 by omega]
theorem bitsum_congr {q q' : Nat → Bool} (n : Nat) (h : ∀ i, i < n → q i = q' i) : bitsum q n = bitsum q' n := by
  induction n with
  | zero => rfl
  | succ n ih => rw [bitsum, bitsum, ih (fun i hi => h i (by omega)), h n (by omega)]
theorem shl_one (j : Nat) (h : j < 62) : shl .i64 1 (j : Int) = ((2 ^ j : Nat) : Int) := by
  unfold shl
  have e : min (j : Int).toNat IntKind.i64.bits = j := by
    show min (j : Int).toNat 64 = j
    omega
  rw [e]
  have e2 : (1 : Int) * 2 ^ j = ((2 ^ j : Nat) : Int) := by simp
  rw [e2]
  exact wrap_i64_nat _ (Nat.pow_lt_pow_right (by omega) (by omega))
theorem or_shl (a j : Nat) (ha : a < 2 ^ 62) (hj : j < 62) : Go.bits .or .i64 (a : Int) (shl .i64 1 (j : Int)) = ((a ||| 2 ^ j : Nat) : Int) := by
  rw [shl_one j hj]
  exact or_nat a _ (Nat.lt_of_lt_of_le ha (by decide)) (Nat.pow_lt_pow_right (by omega) (by omega))
/-- The rows' sets. -/
def relList (R C : Nat) (p : Nat → Nat → Bool) : List Int := (List.range R).map fun i => ((bitsum (p i) C : Nat) : Int)
theorem relList_length (R C : Nat) (p : Nat → Nat → Bool) : (relList R C p).length = R := by simp [relList]
theorem relList_congr {R C : Nat} {p p' : Nat → Nat → Bool} (h : ∀ i j, i < R → j < C → p i j = p' i j) : relList R C p = relList R C p' := by
  unfold relList
  apply List.map_congr_left
  intro i hi
  rw [bitsum_congr C (fun j hj => h i j (by simpa using hi) hj)]
/-- A list that is being filled: the first i rows are whole, the row i has the columns < j, the others are 0. -/
def part (R C : Nat) (p : Nat → Nat → Bool) (i j : Nat) : List Int := (List.range R).map fun r => if r < i then ((bitsum (p r) C : Nat) : Int) else if r = i then ((bitsum (p r) j : Nat) : Int) else 0
theorem part_length (R C : Nat) (p : Nat → Nat → Bool) (i j : Nat) : (part R C p i j).length = R := by simp [part]
theorem part_start (R C : Nat) (p : Nat → Nat → Bool) : List.replicate R 0 = part R C p 0 0 := by
  apply List.ext_getElem?
  intro r
  by_cases h : r < R
  · simp [part, h, List.getElem?_replicate, bitsum]
  · rw [List.getElem?_eq_none (by simp; omega), List.getElem?_eq_none (by rw [part_length]; omega)]
theorem part_next (R C : Nat) (p : Nat → Nat → Bool) (i : Nat) : part R C p i C = part R C p (i + 1) 0 := by
  apply List.ext_getElem?
  intro r
  by_cases h : r < R
  · simp only [part, List.getElem?_map, List.getElem?_range h, Option.map_some]
    by_cases h1 : r < i
    · simp [h1, show r < i + 1 by omega]
    · by_cases h2 : r = i
      · simp [h2]
      · simp [h1, h2, show ¬ r < i + 1 by omega, bitsum]
  · rw [List.getElem?_eq_none (by rw [part_length]; omega), List.getElem?_eq_none (by rw [part_length]; omega)]
theorem part_end (R C : Nat) (p : Nat → Nat → Bool) : part R C p R 0 = relList R C p := by
  unfold part relList
  apply List.map_congr_left
  intro r hr
  rw [if_pos (by simpa using hr)]
theorem part_rd (R C : Nat) (p : Nat → Nat → Bool) (i j : Nat) (hi : i < R) : rd (part R C p i j) (i : Int) = ((bitsum (p i) j : Nat) : Int) := by
  rw [rd_nat]
  simp [part, List.getD_eq_getElem?_getD, hi]
theorem part_set (R C : Nat) (p : Nat → Nat → Bool) (i j : Nat) (hi : i < R) (hp : p i j = true) : (part R C p i j).set i ((bitsum (p i) j ||| 2 ^ j : Nat) : Int) = part R C p i (j + 1) := by
  apply List.ext_getElem?
  intro r
  by_cases h : r < R
  · rw [List.getElem?_set]
    simp only [part, List.getElem?_map, List.getElem?_range h, Option.map_some, List.length_map, List.length_range]
    by_cases e : i = r
    · subst e
      simp [h, bitsum, hp]
    · rw [if_neg e]
      simp [show ¬ r = i from fun h => e h.symm]
  · rw [List.getElem?_eq_none (by simp [part_length]; omega), List.getElem?_eq_none (by rw [part_length]; omega)]
theorem part_skip (R C : Nat) (p : Nat → Nat → Bool) (i j : Nat) (hp : p i j = false) : part R C p i j = part R C p i (j + 1) := by
  unfold part
  apply List.map_congr_left
  intro r _
  by_cases h1 : r < i
  · simp [h1]
  · by_cases h2 : r = i
    · subst h2
      simp [bitsum, hp]
    · simp [h1, h2]

theorem markTable_k (R C : Int) (l : List Int) (hl : l.length ≤ 1048576) (k : Nat) (hk : l.length < k) : laws_markTable.f k R C l 1 = some (1 + (l.length : Int), iota 1 l.length) := by
  unfold laws_markTable.f
  rw [markIntS_k l 1 (by omega) (by omega) k hk]
  rfl

/-- The columns of a table's marks, as a number. -/
theorem allIn_iff (l : List Int) (a b : Int) : allIn l a b = true ↔ ∀ x ∈ l, a ≤ x ∧ x ≤ b := by
  unfold allIn
  rw [List.all_eq_true]
  simp
/-- What a table is: its rows, its columns, and each row's marks as a number. -/
theorem isTab_iff (R C : Int) (M : List Int) : isTab R C M = true ↔ ∃ (r c : Nat) (ms : List Nat), R = (r : Int) ∧ C = (c : Int) ∧ M = ms.map (fun (x : Nat) => (x : Int)) ∧ 1 ≤ r ∧ r ≤ 6 ∧ 1 ≤ c ∧ c ≤ 6 ∧ ms.length = r ∧ ∀ x ∈ ms, x < 2 ^ c := by
  unfold isTab
  simp only [Bool.and_eq_true, decide_eq_true_eq, allIn_iff]
  constructor
  · rintro ⟨⟨⟨h1, h2⟩, h3⟩, h4⟩
    have ec : C = ((C.toNat : Nat) : Int) := by omega
    have e5 : wrap64 (shl .i64 1 C - 1) = ((2 ^ C.toNat - 1 : Nat) : Int) := by
      rw [ec, shl_one C.toNat (by omega)]
      have hp : 0 < 2 ^ C.toNat := Nat.two_pow_pos _
      have hq : 2 ^ C.toNat ≤ 2 ^ 6 := Nat.pow_le_pow_right (by omega) (by omega)
      have e6 : (((C.toNat : Nat) : Int)).toNat = C.toNat := by omega
      rw [e6, wrap_ok (by omega) (by omega)]
      omega
    rw [e5] at h4
    refine ⟨R.toNat, C.toNat, M.map Int.toNat, by omega, ec, ?_, by omega, by omega, by omega, by omega, by simp; omega, ?_⟩
    · rw [List.map_map]
      conv => lhs; rw [← List.map_id M]
      apply List.map_congr_left
      intro x hx
      have := h4 x hx
      show x = ((x.toNat : Nat) : Int)
      omega
    · intro x hx
      obtain ⟨y, hy, rfl⟩ := List.mem_map.1 hx
      have := h4 y hy
      have hp : 0 < 2 ^ C.toNat := Nat.two_pow_pos _
      omega
  · rintro ⟨r, c, ms, rfl, rfl, rfl, h1, h2, h3, h4, h5, h6⟩
    have hp : 0 < 2 ^ c := Nat.two_pow_pos _
    have hq : 2 ^ c ≤ 2 ^ 6 := Nat.pow_le_pow_right (by omega) (by omega)
    have e5 : wrap64 (shl .i64 1 (c : Int) - 1) = ((2 ^ c - 1 : Nat) : Int) := by
      rw [shl_one c (by omega), wrap_ok (by omega) (by omega)]
      omega
    refine ⟨⟨⟨by omega, by omega⟩, by simp; omega⟩, ?_⟩
    intro x hx
    obtain ⟨y, hy, rfl⟩ := List.mem_map.1 hx
    have := h6 y hy
    rw [e5]
    omega
/-- Is a row marked in a column? -/
def mk (ms : List Nat) (r c : Nat) : Bool := (ms.getD r 0).testBit c
theorem rd_map (ms : List Nat) (i : Nat) : rd (ms.map (fun (x : Nat) => (x : Int))) (i : Int) = ((ms.getD i 0 : Nat) : Int) := by
  rw [rd_nat]
  simp only [List.getD_eq_getElem?_getD, List.getElem?_map]
  cases ms[i]? <;> simp
theorem getD_lt {ms : List Nat} {b : Nat} (hb : 0 < b) (h : ∀ x ∈ ms, x < b) (i : Nat) : ms.getD i 0 < b := by
  rw [List.getD_eq_getElem?_getD]
  cases hx : ms[i]? with
  | none => simpa using hb
  | some x => exact h x (List.mem_of_getElem? hx)
/-- The bit of a number, as Go asks it. -/
theorem shr_nat (x c : Nat) (hc : c < 64) : shr .i64 (x : Int) (c : Int) = ((x / 2 ^ c : Nat) : Int) := by
  unfold shr
  have e : min (c : Int).toNat IntKind.i64.bits = c := by
    show min (c : Int).toNat 64 = c
    omega
  rw [e]
  simp
theorem bit_and (x c : Nat) (hx : x < 2 ^ 63) (hc : c < 64) : (Go.bits .and .i64 (shr .i64 (x : Int) (c : Int)) 1 == 1) = x.testBit c := by
  rw [shr_nat x c hc]
  have h1 : x / 2 ^ c < 2 ^ 63 := Nat.lt_of_le_of_lt (Nat.div_le_self _ _) hx
  have e : Go.bits .and .i64 ((x / 2 ^ c : Nat) : Int) 1 = ((x / 2 ^ c &&& 1 : Nat) : Int) := and_nat _ 1 h1 (by decide)
  rw [e, Nat.and_one_is_mod]
  have e2 : x.testBit c = decide (x / 2 ^ c % 2 = 1) := Nat.testBit_eq_decide_div_mod_eq
  rw [e2]
  by_cases h : x / 2 ^ c % 2 = 1
  · simp [h]
  · have : x / 2 ^ c % 2 = 0 := by omega
    simp [this]
theorem marked_k (R C : Int) (ms : List Nat) (r c : Nat) (hb : ∀ x ∈ ms, x < 64) (hr : r < ms.length) (hc : c < 60) : impl_Table_marked.f R C (ms.map (fun (x : Nat) => (x : Int))) (r : Int) (c : Int) = some (mk ms r c) := by
  unfold impl_Table_marked.f mk
  have := getD_lt (b := 64) (by omega) hb r
  rw [if_pos (by omega), if_pos (by simpa using hr), if_pos (by omega), rd_map, bit_and _ c (by omega) (by omega)]

theorem tmod_nat (n : Nat) : Int.tmod (n : Int) 2 = ((n % 2 : Nat) : Int) := by
  rw [Int.tmod_eq_emod_of_nonneg (by omega)]
  omega
theorem orHas_k (x i : Nat) (hi : i < 64) : spec_orHas.f (x : Int) (i : Int) = some (x.testBit i) := by
  unfold spec_orHas.f
  rw [if_pos (by omega), shr_nat x i hi, tmod_nat]
  have e2 : x.testBit i = decide (x / 2 ^ i % 2 = 1) := Nat.testBit_eq_decide_div_mod_eq
  rw [e2]
  congr 1
  by_cases h : x / 2 ^ i % 2 = 1
  · simp [h]
  · have : x / 2 ^ i % 2 = 0 := by omega
    simp [this]

/-- The elements of a set that are less than m. -/
def elemsTo (x m : Nat) : List Nat := (List.range m).filter x.testBit
theorem elemsTo_succ (x m : Nat) : elemsTo x (m + 1) = elemsTo x m ++ (if x.testBit m = true then [m] else []) := by
  unfold elemsTo
  rw [List.range_succ, List.filter_append]
  by_cases h : x.testBit m = true <;> simp [h]
theorem elemsTo_length (x m : Nat) : (elemsTo x m).length ≤ m := by
  have := List.length_filter_le x.testBit (List.range m)
  simpa [elemsTo] using this
theorem elemsTo_more (x i d : Nat) (h : x < 2 ^ i) : elemsTo x (i + d) = elemsTo x i := by
  induction d with
  | zero => rfl
  | succ d ih =>
    rw [show i + (d + 1) = (i + d) + 1 from rfl, elemsTo_succ, ih]
    have : x.testBit (i + d) = false := Nat.testBit_lt_two_pow (Nat.lt_of_lt_of_le h (Nat.pow_le_pow_right (by omega) (by omega)))
    simp [this]
theorem orList_l0 (x m : Nat) (hx : x < 2 ^ m) (hm : m ≤ 60) : ∀ (d k i : Nat), i + d = m → d < k → spec_orList.l0 k (x : Int) ((elemsTo x i).map (fun (y : Nat) => (y : Int))) (i : Int) = some ((elemsTo x m).map (fun (y : Nat) => (y : Int))) := by
  intro d
  induction d with
  | zero =>
    intro k i hi hk
    obtain ⟨k, rfl⟩ : ∃ q, k = q + 1 := ⟨k - 1, by omega⟩
    have e : i = m := by omega
    subst e
    have h0 : x / 2 ^ i = 0 := Nat.div_eq_of_lt hx
    simp only [spec_orList.l0]
    rw [if_pos (by omega), shr_nat x i (by omega), h0, if_neg (by omega)]
  | succ d ih =>
    intro k i hi hk
    obtain ⟨k, rfl⟩ : ∃ q, k = q + 1 := ⟨k - 1, by omega⟩
    simp only [spec_orList.l0]
    rw [if_pos (by omega), shr_nat x i (by omega)]
    by_cases h0 : x / 2 ^ i = 0
    · rw [h0, if_neg (by omega)]
      have hlt : x < 2 ^ i := by
        have := Nat.div_eq_zero_iff.1 h0
        have hp := Nat.two_pow_pos i
        omega
      have := elemsTo_more x i (d + 1) hlt
      rw [hi] at this
      rw [this]
    · have hl := elemsTo_length x i
      have next := ih k (i + 1) (by omega) (by omega)
      have hpos : ((x / 2 ^ i : Nat) : Int) > 0 := Int.natCast_pos.2 (Nat.pos_of_ne_zero h0)
      rw [if_pos hpos, orHas_k x i (by omega), wrap_ok (by omega) (by omega), show ((i : Int) + 1) = ((i + 1 : Nat) : Int) by omega]
      simp only [Option.bind_some]
      rw [elemsTo_succ] at next
      cases hb : x.testBit i
      · rw [if_neg (by simp)]
        simpa [hb] using next
      · rw [if_pos rfl, if_pos (by simp; omega)]
        simpa [hb] using next
theorem orList_k (x m : Nat) (hx : x < 2 ^ m) (hm : m ≤ 60) (k : Nat) (hk : m < k) : spec_orList.f k (x : Int) = some ((elemsTo x m).map (fun (y : Nat) => (y : Int))) := by
  unfold spec_orList.f
  exact orList_l0 x m hx hm m k 0 (by omega) hk

/-! A loop that looks for the first index for which something is told: what it tells with enough rounds. -/
/-- One round of such a loop: what is told ends it; else it goes on. -/
def Step {α : Type} (F : Nat → Nat → Option α) (G : Nat → Option α) (c i : Nat) : Prop :=
  (∀ v, G i = some v → ∀ k, c ≤ k → F (k + 1) i = some v) ∧ (G i = none → ∀ K r, (∀ k, K ≤ k → F k (i + 1) = some r) → ∀ k, K + c ≤ k → F (k + 1) i = some r)
theorem search {α : Type} (F : Nat → Nat → Option α) (n c : Nat) (G : Nat → Option α) (h : ∀ i, i < n → Step F G c i) :
    ∀ e i, i + e = n → (∀ v, (List.range' i e).findSome? G = some v → ∀ k, e * (c + 1) ≤ k → F k i = some v) ∧
      ((List.range' i e).findSome? G = none → ∀ K r, (∀ k, K ≤ k → F k n = some r) → ∀ k, K + e * (c + 1) ≤ k → F k i = some r) := by
  intro e
  induction e with
  | zero =>
    intro i hi
    have e0 : i = n := by omega
    subst e0
    exact ⟨fun v h => by simp at h, fun _ K r h k hk => h k (by omega)⟩
  | succ e ih =>
    intro i hi
    obtain ⟨ihA, ihB⟩ := ih (i + 1) (by omega)
    obtain ⟨hb, hs⟩ := h i (by omega)
    rw [List.range'_succ, List.findSome?_cons]
    refine ⟨fun v h k hk => ?_, fun h K r hr k hk => ?_⟩
    · rw [Nat.succ_mul] at hk
      obtain ⟨k, rfl⟩ : ∃ m, k = m + 1 := ⟨k - 1, by omega⟩
      cases hG : G i with
      | some w =>
        rw [hG] at h
        exact hb v (by rw [hG]; exact h) k (by omega)
      | none =>
        rw [hG] at h
        exact hs hG (e * (c + 1)) v (fun k hk => ihA v h k hk) k (by omega)
    · rw [Nat.succ_mul] at hk
      obtain ⟨k, rfl⟩ : ∃ m, k = m + 1 := ⟨k - 1, by omega⟩
      cases hG : G i with
      | some w =>
        rw [hG] at h
        cases h
      | none =>
        rw [hG] at h
        exact hs hG (K + e * (c + 1)) r (fun k hk => ihB h K r hr k hk) k (by omega)
/-- A loop within a loop: the outer one's round is the inner one from its start; at its end it goes on. -/
theorem search2 {α : Type} {F I : Nat → Nat → Option α} {m c : Nat} {G : Nat → Option α} {GO : Nat → Option α} {i : Nat} (b : Nat)
    (h : ∀ j, j < m → Step I G c j) (hG : GO i = (List.range' 0 m).findSome? G) (hin : ∀ k, b ≤ k → F (k + 1) i = I k 0) (hout : ∀ k, I (k + 1) m = F k (i + 1)) : Step F GO (b + m * (c + 1) + 1) i := by
  obtain ⟨hA, hB⟩ := search I m c G h m 0 (by omega)
  unfold Step
  rw [hG]
  refine ⟨fun v h k hk => ?_, fun h K r hr k hk => ?_⟩
  · rw [hin k (by omega)]
    exact hA v h k (by omega)
  · rw [hin k (by omega)]
    refine hB h (K + 1) r (fun k hk => ?_) k (by omega)
    obtain ⟨k, rfl⟩ : ∃ q, k = q + 1 := ⟨k - 1, by omega⟩
    rw [hout]
    exact hr k (by omega)
/-- A whole search: the first that is told, or what stands at the end. -/
theorem search0 {α : Type} {F : Nat → Nat → Option α} {n c : Nat} {G : Nat → Option α} (h : ∀ i, i < n → Step F G c i) (z : α) (hz : ∀ k, F (k + 1) n = some z) (k : Nat) (hk : n * (c + 1) + 1 ≤ k) :
    F k 0 = some (((List.range' 0 n).findSome? G).getD z) := by
  obtain ⟨hA, hB⟩ := search F n c G h n 0 (by omega)
  cases h0 : (List.range' 0 n).findSome? G with
  | some v => exact hA v h0 k (by omega)
  | none =>
    refine hB h0 1 z (fun k hk => ?_) k (by omega)
    obtain ⟨k, rfl⟩ : ∃ q, k = q + 1 := ⟨k - 1, by omega⟩
    exact hz k
theorem nat_succ (i : Nat) : ((i : Int) + 1) = ((i + 1 : Nat) : Int) := by omega
theorem fs_none {α : Type} (n : Nat) (G : Nat → Option α) : (List.range' 0 n).findSome? G = none ↔ ∀ i, i < n → G i = none := by
  rw [List.findSome?_eq_none_iff]
  constructor
  · intro h i hi
    exact h i (by rw [List.mem_range']; exact ⟨i, hi, by omega⟩)
  · intro h x hx
    rw [List.mem_range'] at hx
    obtain ⟨i, hi, e⟩ := hx
    exact h x (by omega)
theorem fs_some {α : Type} (n : Nat) (G : Nat → Option α) (v : α) (h : (List.range' 0 n).findSome? G = some v) : ∃ i, i < n ∧ G i = some v := by
  obtain ⟨x, hx, hv⟩ := List.exists_of_findSome?_eq_some h
  rw [List.mem_range'] at hx
  obtain ⟨i, hi, e⟩ := hx
  exact ⟨x, by omega, hv⟩

/-- Four cells that refuse a table. -/
def four (ms : List Nat) (r c s d : Nat) : Bool := mk ms r c && !mk ms r d && mk ms s d && !mk ms s c
def four4 (ms : List Nat) (r c s d : Nat) : Option (List Int) := if four ms r c s d = true then some [(r : Int), (c : Int), (s : Int), (d : Int)] else none
def four3 (C : Nat) (ms : List Nat) (r c s : Nat) : Option (List Int) := (List.range' 0 C).findSome? (four4 ms r c s)
def four2 (R C : Nat) (ms : List Nat) (r c : Nat) : Option (List Int) := (List.range' 0 R).findSome? (four3 C ms r c)
def four1 (R C : Nat) (ms : List Nat) (r : Nat) : Option (List Int) := (List.range' 0 C).findSome? (four2 R C ms r)
def four0 (R C : Nat) (ms : List Nat) : Option (List Int) := (List.range' 0 R).findSome? (four1 R C ms)
abbrev asInts (ms : List Nat) : List Int := ms.map (fun (x : Nat) => (x : Int))
theorem four_l3 (R C : Nat) (ms : List Nat) (hR : ms.length = R) (hC : C ≤ 6) (hb : ∀ x ∈ ms, x < 64) (r c s : Nat) (hr : r < R) (hc : c < C) (hs : s < R) (d : Nat) (hd : d < C) :
    Step (fun k d => impl_Table_fourCells.l3 k (r : Int) (c : Int) (s : Int) (R : Int) (r : Int) (C : Int) (c : Int) (R : Int) (s : Int) (C : Int) (d : Int) (R : Int) (C : Int) (asInts ms)) (four4 ms r c s) 0 d := by
  refine ⟨fun v hv k _ => ?_, fun hv K v hK k hk => ?_⟩
  all_goals
    have q1 := marked_k (R : Int) (C : Int) ms r c hb (by omega) (by omega)
    have q2 := marked_k (R : Int) (C : Int) ms r d hb (by omega) (by omega)
    have q3 := marked_k (R : Int) (C : Int) ms s d hb (by omega) (by omega)
    have q4 := marked_k (R : Int) (C : Int) ms s c hb (by omega) (by omega)
    simp only [impl_Table_fourCells.l3]
    rw [if_pos (by omega), q1, q2, q3, q4, wrap_ok (by omega) (by omega), nat_succ]
    unfold four4 four at hv
    simp only [Option.bind_some]
  · cases h1 : mk ms r c <;> cases h2 : mk ms r d <;> cases h3 : mk ms s d <;> cases h4 : mk ms s c <;> simp [h1, h2, h3, h4] at hv ⊢
    exact hv
  · have hn := hK k (by omega)
    cases h1 : mk ms r c <;> cases h2 : mk ms r d <;> cases h3 : mk ms s d <;> cases h4 : mk ms s c <;> simp [h1, h2, h3, h4] at hv ⊢ <;> exact hn
theorem four_l2 (R C : Nat) (ms : List Nat) (hR : ms.length = R) (hR6 : R ≤ 6) (hC : C ≤ 6) (hb : ∀ x ∈ ms, x < 64) (r c : Nat) (hr : r < R) (hc : c < C) (s : Nat) (hs : s < R) :
    Step (fun k s => impl_Table_fourCells.l2 k (r : Int) (c : Int) (R : Int) (r : Int) (C : Int) (c : Int) (R : Int) (s : Int) (R : Int) (C : Int) (asInts ms)) (four3 C ms r c) (0 + C * (0 + 1) + 1) s :=
  search2 0 (four_l3 R C ms hR hC hb r c s hr hc hs) rfl
    (fun k _ => by simp only [impl_Table_fourCells.l2]; rw [if_pos (by omega)]; rfl)
    (fun k => by simp only [impl_Table_fourCells.l3]; rw [if_neg (by omega), wrap_ok (by omega) (by omega), nat_succ])
theorem four_l1 (R C : Nat) (ms : List Nat) (hR : ms.length = R) (hR6 : R ≤ 6) (hC : C ≤ 6) (hb : ∀ x ∈ ms, x < 64) (r : Nat) (hr : r < R) (c : Nat) (hc : c < C) :
    Step (fun k c => impl_Table_fourCells.l1 k (r : Int) (R : Int) (r : Int) (C : Int) (c : Int) (R : Int) (C : Int) (asInts ms)) (four2 R C ms r) (0 + R * (0 + C * (0 + 1) + 1 + 1) + 1) c :=
  search2 0 (four_l2 R C ms hR hR6 hC hb r c hr hc) rfl
    (fun k _ => by simp only [impl_Table_fourCells.l1]; rw [if_pos (by omega)]; rfl)
    (fun k => by simp only [impl_Table_fourCells.l2]; rw [if_neg (by omega), wrap_ok (by omega) (by omega), nat_succ])
theorem four_l0 (R C : Nat) (ms : List Nat) (hR : ms.length = R) (hR6 : R ≤ 6) (hC : C ≤ 6) (hb : ∀ x ∈ ms, x < 64) (r : Nat) (hr : r < R) :
    Step (fun k r => impl_Table_fourCells.l0 k (R : Int) (r : Int) (R : Int) (C : Int) (asInts ms)) (four1 R C ms) (0 + C * (0 + R * (0 + C * (0 + 1) + 1 + 1) + 1 + 1) + 1) r :=
  search2 0 (four_l1 R C ms hR hR6 hC hb r hr) rfl
    (fun k _ => by simp only [impl_Table_fourCells.l0]; rw [if_pos (by omega)]; rfl)
    (fun k => by simp only [impl_Table_fourCells.l1]; rw [if_neg (by omega), wrap_ok (by omega) (by omega), nat_succ])
theorem four_bound (R C : Nat) (hR6 : R ≤ 6) (hC : C ≤ 6) : R * (0 + C * (0 + R * (0 + C * (0 + 1) + 1 + 1) + 1 + 1) + 1 + 1) + 1 ≤ 4000 := by
  have h1 : C * (0 + 1) ≤ 6 * (0 + 1) := Nat.mul_le_mul hC (Nat.le_refl _)
  have h2 : R * (0 + C * (0 + 1) + 1 + 1) ≤ 6 * (0 + 6 * (0 + 1) + 1 + 1) := Nat.mul_le_mul hR6 (by omega)
  have h3 : C * (0 + R * (0 + C * (0 + 1) + 1 + 1) + 1 + 1) ≤ 6 * (0 + 6 * (0 + 6 * (0 + 1) + 1 + 1) + 1 + 1) := Nat.mul_le_mul hC (by omega)
  have h4 : R * (0 + C * (0 + R * (0 + C * (0 + 1) + 1 + 1) + 1 + 1) + 1 + 1) ≤ 6 * (0 + 6 * (0 + 6 * (0 + 6 * (0 + 1) + 1 + 1) + 1 + 1) + 1 + 1) := Nat.mul_le_mul hR6 (by omega)
  omega
/-- The first four cells that refuse a table, or nothing. -/
theorem fourCells_k (R C : Nat) (ms : List Nat) (hR : ms.length = R) (hR6 : R ≤ 6) (hC : C ≤ 6) (hb : ∀ x ∈ ms, x < 64) (k : Nat) (hk : 4000 ≤ k) : impl_Table_fourCells.f k (R : Int) (C : Int) (asInts ms) = some ((four0 R C ms).getD []) := by
  unfold impl_Table_fourCells.f
  have hn := four_bound R C hR6 hC
  exact search0 (four_l0 R C ms hR hR6 hC hb) [] (fun k => by simp only [impl_Table_fourCells.l0]; rw [if_neg (by omega)]) k (by omega)
theorem four0_ne (R C : Nat) (ms : List Nat) (v : List Int) (h : four0 R C ms = some v) : v ≠ [] := by
  unfold four0 at h
  obtain ⟨i, _, h1⟩ := fs_some _ _ _ h
  unfold four1 at h1
  obtain ⟨j, _, h2⟩ := fs_some _ _ _ h1
  unfold four2 at h2
  obtain ⟨i, _, h3⟩ := fs_some _ _ _ h2
  unfold four3 at h3
  obtain ⟨i, _, h4⟩ := fs_some _ _ _ h3
  unfold four4 at h4
  split at h4
  · injection h4 with h4
    rw [← h4]
    simp
  · cases h4
theorem four_len (R C : Nat) (ms : List Nat) : ((four0 R C ms).getD []).length ≤ 4 := by
  cases h : four0 R C ms with
  | none => simp
  | some v =>
    unfold four0 at h
    obtain ⟨i, _, h1⟩ := fs_some _ _ _ h
    unfold four1 at h1
    obtain ⟨j, _, h2⟩ := fs_some _ _ _ h1
    unfold four2 at h2
    obtain ⟨i, _, h3⟩ := fs_some _ _ _ h2
    unfold four3 at h3
    obtain ⟨i, _, h4⟩ := fs_some _ _ _ h3
    unfold four4 at h4
    split at h4
    · injection h4 with h4
      rw [← h4]
      simp
    · cases h4

theorem findSome_filter {α β : Type} (p : α → Bool) (g : α → Option β) (l : List α) : (l.filter p).findSome? g = l.findSome? (fun x => if p x = true then g x else none) := by
  induction l with
  | nil => rfl
  | cons a l ih =>
    rw [List.filter_cons]
    cases h : p a
    · simp [h, ih]
    · rw [if_pos rfl, List.findSome?_cons, List.findSome?_cons, ih, h, if_pos rfl]
theorem findSome_congr {α β : Type} (g g' : α → Option β) (l : List α) (h : ∀ x ∈ l, g x = g' x) : l.findSome? g = l.findSome? g' := by
  induction l with
  | nil => rfl
  | cons a l ih =>
    rw [List.findSome?_cons, List.findSome?_cons, h a (by simp), ih (fun x hx => h x (by simp [hx]))]
theorem findSome_get {α β : Type} (d : α) (g : α → Option β) (l : List α) : (List.range' 0 l.length).findSome? (fun i => g (l.getD i d)) = l.findSome? g := by
  have e : (List.range' 0 l.length).map (fun i => l.getD i d) = l := by
    apply List.ext_getElem?
    intro i
    by_cases h : i < l.length
    · simp [List.getElem?_range' h, h]
    · rw [List.getElem?_eq_none (by simp; omega), List.getElem?_eq_none (by omega)]
  conv => rhs; rw [← e]
  rw [List.findSome?_map]
  rfl
/-- What the reference tells of a row, a column that is marked in it, a second row and a column. -/
def sp4 (ms : List Nat) (r c s d : Nat) : Option (List Int × Bool) := if mk ms s c = true then none else some ([(r : Int), (c : Int), (s : Int), (d : Int)], true)
def sp3 (C : Nat) (ms : List Nat) (r c s : Nat) : Option (List Int × Bool) := (elemsTo (andn (ms.getD s 0) (ms.getD r 0)) C).findSome? (sp4 ms r c s)
def sp2 (C : Nat) (ms : List Nat) (r c : Nat) : Option (List Int × Bool) := (List.range' 0 ms.length).findSome? (sp3 C ms r c)
def sp1 (C : Nat) (ms : List Nat) (r : Nat) : Option (List Int × Bool) := (elemsTo (ms.getD r 0) C).findSome? (sp2 C ms r)
def sp0 (C : Nat) (ms : List Nat) : Option (List Int × Bool) := (List.range' 0 ms.length).findSome? (sp1 C ms)
theorem getD_map (l : List Nat) (j : Nat) : rd (asInts l) (j : Int) = ((l.getD j 0 : Nat) : Int) := rd_map l j
theorem elems_lt (x m j : Nat) (hj : j < (elemsTo x m).length) : (elemsTo x m).getD j 0 < m := by
  rw [List.getD_eq_getElem?_getD, List.getElem?_eq_getElem hj]
  have h2 : (elemsTo x m)[j] ∈ (List.range m).filter x.testBit := List.getElem_mem hj
  exact List.mem_range.1 (List.mem_filter.1 h2).1
theorem sp_l3 (R C : Int) (ms : List Nat) (h6 : ms.length ≤ 6) (hb : ∀ x ∈ ms, x < 64) (r c s : Nat) (hc : c < 64) (L1 L2 : List Nat) (h2 : L2.length ≤ 60) (j1 : Int) (d : Nat) (hd : d < L2.length) :
    Step (fun k d => spec_FourCells.l3 k (r : Int) ((ms.getD r 0 : Nat) : Int) (c : Int) (s : Int) ((ms.getD s 0 : Nat) : Int) (asInts ms) (ms.length : Int) (r : Int) (asInts L1) (L1.length : Int) j1 (asInts ms) (ms.length : Int) (s : Int) (asInts L2) (L2.length : Int) (d : Int) R C (asInts ms)) (fun d => sp4 ms r c s (L2.getD d 0)) 0 d := by
  refine ⟨fun v hv k _ => ?_, fun hv K v hK k hk => ?_⟩
  all_goals
    have l2 : ((asInts L2).length : Int) = (L2.length : Int) := by simp
    simp only [spec_FourCells.l3]
    rw [if_pos (by omega), if_pos (by omega), if_pos (by omega), orHas_k _ c (by omega), getD_map, wrap_ok (by omega) (by omega), nat_succ]
    have em : (ms.getD s 0).testBit c = mk ms s c := rfl
    rw [em]
    simp only [sp4] at hv
    simp only [Option.bind_some]
    cases h1 : mk ms s c
  · rw [if_neg (by simp)]
    rw [h1, if_neg (by simp)] at hv
    exact hv
  · rw [h1, if_pos rfl] at hv
    cases hv
  · rw [h1, if_neg (by simp)] at hv
    cases hv
  · rw [if_pos rfl]
    exact hK k (by omega)
theorem sp_l2 (R C : Int) (m : Nat) (hm : m ≤ 6) (ms : List Nat) (h6 : ms.length ≤ 6) (hb : ∀ x ∈ ms, x < 64) (hbm : ∀ x ∈ ms, x < 2 ^ m) (r c : Nat) (hc : c < 64) (L1 : List Nat) (j1 : Int) (s : Nat) (hs : s < ms.length) :
    Step (fun k s => spec_FourCells.l2 k (r : Int) ((ms.getD r 0 : Nat) : Int) (c : Int) (asInts ms) (ms.length : Int) (r : Int) (asInts L1) (L1.length : Int) j1 (asInts ms) (ms.length : Int) (s : Int) R C (asInts ms)) (sp3 m ms r c) (7 + 6 * (0 + 1) + 1) s := by
  have l1 : ((asInts ms).length : Int) = (ms.length : Int) := by simp
  have a1 := getD_lt (b := 64) (by omega) hb r
  have a2 := getD_lt (b := 64) (by omega) hb s
  have a3 := getD_lt (Nat.two_pow_pos m) hbm s
  have a4 := andn_le (ms.getD s 0) (ms.getD r 0)
  have L := elemsTo_length (andn (ms.getD s 0) (ms.getD r 0)) m
  have st := search2 (F := fun k s => spec_FourCells.l2 k (r : Int) ((ms.getD r 0 : Nat) : Int) (c : Int) (asInts ms) (ms.length : Int) (r : Int) (asInts L1) (L1.length : Int) j1 (asInts ms) (ms.length : Int) (s : Int) R C (asInts ms)) (GO := sp3 m ms r c) 7
    (sp_l3 R C ms h6 hb r c s hc L1 (elemsTo (andn (ms.getD s 0) (ms.getD r 0)) m) (by omega) j1)
    (by unfold sp3; rw [findSome_get 0 (sp4 ms r c s)])
    (fun k hk => by
      simp only [spec_FourCells.l2]
      rw [if_pos (by omega), if_pos (by omega), if_pos (by omega), rd_map, andNot_nat _ _ (by omega) (by omega), orList_k _ m (by omega) (by omega) k (by omega)]
      simp only [Option.bind_some]
      rw [show (((elemsTo (andn (ms.getD s 0) (ms.getD r 0)) m).map (fun (y : Nat) => (y : Int))).length : Int) = ((elemsTo (andn (ms.getD s 0) (ms.getD r 0)) m).length : Int) by simp]
      rfl)
    (fun k => by simp only [spec_FourCells.l3]; rw [if_neg (by omega), wrap_ok (by omega) (by omega), nat_succ])
  refine ⟨fun v hv k hk => st.1 v hv k (by omega), fun hv K v hK k hk => st.2 hv K v hK k (by omega)⟩
theorem sp_l1 (R C : Int) (m : Nat) (hm : m ≤ 6) (ms : List Nat) (h6 : ms.length ≤ 6) (hb : ∀ x ∈ ms, x < 64) (hbm : ∀ x ∈ ms, x < 2 ^ m) (r : Nat) (L1 : List Nat) (hL : L1.length ≤ 6) (hL2 : ∀ j, j < L1.length → L1.getD j 0 < 64) (j : Nat) (hj : j < L1.length) :
    Step (fun k j => spec_FourCells.l1 k (r : Int) ((ms.getD r 0 : Nat) : Int) (asInts ms) (ms.length : Int) (r : Int) (asInts L1) (L1.length : Int) (j : Int) R C (asInts ms)) (fun j => sp2 m ms r (L1.getD j 0)) (0 + 6 * (7 + 6 * (0 + 1) + 1 + 1) + 1) j := by
  have l1 : ((asInts ms).length : Int) = (ms.length : Int) := by simp
  have l2 : ((asInts L1).length : Int) = (L1.length : Int) := by simp
  have st := search2 (F := fun k j => spec_FourCells.l1 k (r : Int) ((ms.getD r 0 : Nat) : Int) (asInts ms) (ms.length : Int) (r : Int) (asInts L1) (L1.length : Int) (j : Int) R C (asInts ms)) (GO := fun j => sp2 m ms r (L1.getD j 0)) 0
    (sp_l2 R C m hm ms h6 hb hbm r (L1.getD j 0) (hL2 j hj) L1 (j : Int)) rfl
    (fun k _ => by
      simp only [spec_FourCells.l1]
      rw [if_pos (by omega), if_pos (by omega), if_pos (by omega), getD_map, l1]
      rfl)
    (fun k => by simp only [spec_FourCells.l2]; rw [if_neg (by omega), wrap_ok (by omega) (by omega), nat_succ])
  have hmul : ms.length * (7 + 6 * (0 + 1) + 1 + 1) ≤ 6 * (7 + 6 * (0 + 1) + 1 + 1) := Nat.mul_le_mul h6 (Nat.le_refl _)
  refine ⟨fun v hv k hk => st.1 v hv k (by omega), fun hv K v hK k hk => st.2 hv K v hK k (by omega)⟩
theorem sp_l0 (R C : Int) (m : Nat) (hm : m ≤ 6) (ms : List Nat) (h6 : ms.length ≤ 6) (hb : ∀ x ∈ ms, x < 64) (hbm : ∀ x ∈ ms, x < 2 ^ m) (r : Nat) (hr : r < ms.length) :
    Step (fun k r => spec_FourCells.l0 k (asInts ms) (ms.length : Int) (r : Int) R C (asInts ms)) (sp1 m ms) (7 + 6 * (0 + 6 * (7 + 6 * (0 + 1) + 1 + 1) + 1 + 1) + 1) r := by
  have l1 : ((asInts ms).length : Int) = (ms.length : Int) := by simp
  have a3 := getD_lt (Nat.two_pow_pos m) hbm r
  have L := elemsTo_length (ms.getD r 0) m
  have st := search2 (F := fun k r => spec_FourCells.l0 k (asInts ms) (ms.length : Int) (r : Int) R C (asInts ms)) (GO := sp1 m ms) 7
    (sp_l1 R C m hm ms h6 hb hbm r (elemsTo (ms.getD r 0) m) (by omega) (fun j hj => by have := elems_lt (ms.getD r 0) m j hj; omega))
    (by unfold sp1; rw [findSome_get 0 (sp2 m ms r)])
    (fun k hk => by
      simp only [spec_FourCells.l0]
      rw [if_pos (by omega), if_pos (by omega), if_pos (by omega), rd_map, orList_k _ m a3 (by omega) k (by omega)]
      simp only [Option.bind_some]
      rw [show (((elemsTo (ms.getD r 0) m).map (fun (y : Nat) => (y : Int))).length : Int) = ((elemsTo (ms.getD r 0) m).length : Int) by simp]
      rfl)
    (fun k => by simp only [spec_FourCells.l1]; rw [if_neg (by omega), wrap_ok (by omega) (by omega), nat_succ])
  have hmul : (elemsTo (ms.getD r 0) m).length * (0 + 6 * (7 + 6 * (0 + 1) + 1 + 1) + 1 + 1) ≤ 6 * (0 + 6 * (7 + 6 * (0 + 1) + 1 + 1) + 1 + 1) := Nat.mul_le_mul (by omega) (Nat.le_refl _)
  refine ⟨fun v hv k hk => st.1 v hv k (by omega), fun hv K v hK k hk => st.2 hv K v hK k (by omega)⟩
theorem spFour_k (R C : Int) (m : Nat) (hm : m ≤ 6) (ms : List Nat) (h6 : ms.length ≤ 6) (hb : ∀ x ∈ ms, x < 64) (hbm : ∀ x ∈ ms, x < 2 ^ m) (k : Nat) (hk : 5000 ≤ k) :
    spec_FourCells.l0 k (asInts ms) (ms.length : Int) 0 R C (asInts ms) = some ((sp0 m ms).getD ([], false)) := by
  have hmul : ms.length * (7 + 6 * (0 + 6 * (7 + 6 * (0 + 1) + 1 + 1) + 1 + 1) + 1 + 1) ≤ 6 * (7 + 6 * (0 + 6 * (7 + 6 * (0 + 1) + 1 + 1) + 1 + 1) + 1 + 1) := Nat.mul_le_mul h6 (Nat.le_refl _)
  have e6 : 6 * (7 + 6 * (0 + 6 * (7 + 6 * (0 + 1) + 1 + 1) + 1 + 1) + 1 + 1) + 1 ≤ 5000 := by decide
  have hk2 : ms.length * (7 + 6 * (0 + 6 * (7 + 6 * (0 + 1) + 1 + 1) + 1 + 1) + 1 + 1) + 1 ≤ k := Nat.le_trans (Nat.succ_le_succ hmul) (Nat.le_trans e6 hk)
  generalize hA : 7 + 6 * (0 + 6 * (7 + 6 * (0 + 1) + 1 + 1) + 1 + 1) + 1 = A at hk2
  have hs := sp_l0 R C m hm ms h6 hb hbm
  rw [hA] at hs
  exact search0 hs ([], false) (fun k => by simp only [spec_FourCells.l0]; rw [if_neg (by omega)]) k hk2
theorem map_findSome {α β γ : Type} (f : β → γ) (g : α → Option β) (l : List α) : (l.findSome? g).map f = l.findSome? (fun x => (g x).map f) := by
  induction l with
  | nil => rfl
  | cons a l ih =>
    rw [List.findSome?_cons, List.findSome?_cons]
    cases g a with
    | none => simpa using ih
    | some b => rfl
theorem range_eq (n : Nat) : List.range n = List.range' 0 n := List.range_eq_range'
/-- Both searches tell the same. -/
theorem four_eq (C : Nat) (ms : List Nat) : sp0 C ms = (four0 ms.length C ms).map (fun l => (l, true)) := by
  unfold sp0 four0
  rw [map_findSome]
  apply findSome_congr
  intro r _
  unfold sp1 four1
  rw [map_findSome]
  unfold elemsTo
  rw [findSome_filter, range_eq]
  apply findSome_congr
  intro c _
  unfold four2
  rw [map_findSome]
  by_cases h1 : (ms.getD r 0).testBit c = true
  · rw [if_pos h1]
    unfold sp2
    apply findSome_congr
    intro s _
    unfold sp3 four3
    rw [map_findSome]
    unfold elemsTo
    rw [findSome_filter, range_eq]
    apply findSome_congr
    intro d _
    unfold sp4 four4 four
    rw [andn_bit]
    have e1 : mk ms r c = true := h1
    have e2 : mk ms r d = (ms.getD r 0).testBit d := rfl
    have e3 : mk ms s d = (ms.getD s 0).testBit d := rfl
    rw [e1, e2, e3]
    cases (ms.getD r 0).testBit d <;> cases (ms.getD s 0).testBit d <;> cases mk ms s c <;> rfl
  · rw [if_neg h1]
    symm
    rw [fs_none]
    intro s _
    rw [Option.map_eq_none_iff]
    unfold four3
    rw [fs_none]
    intro d _
    unfold four4 four
    have e1 : mk ms r c = false := by
      unfold mk
      simpa using h1
    rw [e1]
    rfl

theorem FnExactFourCells : laws_FnExactFourCells.Pure := by
  intro R C M _ _ hm _
  by_cases h : M.length ≤ 1048576
  · refine ⟨M.length + 5400, ?_⟩
    have H : ∃ y z, y.length ≤ 4 ∧ (∀ k, M.length + 5200 < k → impl_FourCells.f k R C M = some (y, z)) ∧ (∀ k, M.length + 5200 < k → spec_FourCells.f k R C M = some (y, z)) := by
      cases hT : isTab R C M
      · refine ⟨[], false, by simp, fun k hk => ?_, fun k hk => ?_⟩
        · unfold impl_FourCells.f
          rw [IsTable_k R C M (by omega) k (by omega), hT]
          rfl
        · unfold spec_FourCells.f
          rw [feGood_k R C M (by omega) k (by omega), hT]
          rfl
      · obtain ⟨r, c, ms, rfl, rfl, rfl, h1, h2, h3, h4, h5, h6⟩ := (isTab_iff R C M).1 hT
        have h64 : ∀ x ∈ ms, x < 64 := fun x hx => Nat.lt_of_lt_of_le (h6 x hx) (Nat.pow_le_pow_right (n := 2) (by omega) h4)
        refine ⟨(four0 r c ms).getD [], (four0 r c ms).isSome, four_len r c ms, fun k hk => ?_, fun k hk => ?_⟩
        · unfold impl_FourCells.f
          rw [IsTable_k _ _ _ (by omega) k (by omega), hT]
          simp only [Option.bind_some, if_true]
          rw [fourCells_k r c ms h5 h2 h4 h64 k (by omega)]
          simp only [Option.bind_some]
          cases h0 : four0 r c ms with
          | none => simp
          | some v => simp [four0_ne r c ms v h0]
        · unfold spec_FourCells.f
          rw [feGood_k _ _ _ (by omega) k (by omega), hT]
          simp only [Option.bind_some, if_true]
          have e := spFour_k (r : Int) (c : Int) c h4 ms (by omega) h64 h6 k (by omega)
          have l1 : ((asInts ms).length : Int) = (ms.length : Int) := by simp
          rw [l1, e, four_eq, h5]
          cases four0 r c ms <;> rfl
    obtain ⟨y, z, hy, hI, hS⟩ := H
    unfold laws_FnExactFourCells.f
    rw [szTable_eq R C M hm, if_pos h]
    simp only [Option.bind_some]
    rw [if_neg (by omega)]
    repeat (first
      | (rw [toTable_k R C M h _ (by omega)]; simp only [Option.bind_some])
      | (rw [hS _ (by omega)]; simp only [Option.bind_some])
      | (rw [hI _ (by omega)]; simp only [Option.bind_some])
      | (rw [eqTable_k _ _ _ (by omega) _ (by omega)]; simp only [Option.bind_some])
      | (rw [markTable_k _ _ _ (by omega) _ (by omega)]; simp only [Option.bind_some])
      | (rw [eqIntS_k _ (by omega) _ (by omega)]; simp only [Option.bind_some])
      | (rw [markIntS_k _ 1 (by omega) (by omega) _ (by omega)]; simp only [Option.bind_some])
      | (rw [heldIntS_k 1 _ (by omega) (by omega) _ (by omega)]; simp only [Option.bind_some])
      | (simp only [if_true, Bool.false_eq_true, if_false, bne_self_eq_false, if_neg (one_add_nonneg _), if_pos rfl]; done)
      | (rw [if_neg (one_add_nonneg _)])
      | (rw [laws_FnExactFourCells.j0]; simp only [Bool.false_eq_true, if_false, if_true])
      | (rw [laws_FnExactFourCells.j1]; simp only [Bool.false_eq_true, if_false, if_true])
      | (rw [laws_FnExactFourCells.j2]; simp only [Bool.false_eq_true, if_false, if_true])
      | (simp only [if_true, Bool.false_eq_true, if_false, bne_self_eq_false]))
  · refine ⟨1, ?_⟩
    unfold laws_FnExactFourCells.f
    rw [szTable_eq R C M hm, if_neg h]
    simp

end Go.Proofs.Ytcjofpajmhddkaa.Pure
