/- CoverOf: the program returns for every table and list of cells the cover that the reference returns; no condition. -/
import Derived.Test.YtcjofpajmhddkaaPFnExactCoverOfx8
namespace Go.Proofs.Ytcjofpajmhddkaa.Pure
open Go.RowKit Go.Proofs.Ytcjofpajmhddkaa.PFnExactCoverOf Go.Proofs.YtcjofpajmhddkaaW.PrintWords Go.Proofs.YtcjofpajmhddkaaW.PrintLast Go.Proofs.YtcjofpajmhddkaaW.PrintMore
set_option linter.unusedVariables false
set_option linter.unusedSimpArgs false

theorem wrap_ok {x : Int} (h0 : -9223372036854775808 ≤ x) (h1 : x < 9223372036854775808) : wrap64 x = x := by unfold wrap64; omega
theorem wf_bounds {x : Int} (h : (Lit.int .i64 x).wf = true) : -9223372036854775808 ≤ x ∧ x < 9223372036854775808 := by
  have e : IntKind.i64.min ≤ x ∧ x ≤ 9223372036854775807 := by simpa [Lit.wf] using h
  have m : IntKind.i64.min = -9223372036854775808 := by decide
  omega
theorem rd_nat (l : List Int) (i : Nat) : rd l (i : Int) = l.getD i 0 := by simp [rd]

theorem toIntS_l0 (l : List Int) (hl : l.length ≤ 4611686018427387904) : ∀ (d k i : Nat) (x : List Int), i + d = l.length → d < k → x.length = l.length → (∀ j, j < i → x[j]? = l[j]?) → laws_toIntS.l0 k l x (i : Int) = some l := by
  intro d
  induction d with
  | zero =>
    intro k i x h hk hx hj
    obtain ⟨k, rfl⟩ : ∃ m, k = m + 1 := ⟨k - 1, by omega⟩
    simp only [laws_toIntS.l0]
    rw [if_neg (by omega)]
    congr 1
    apply List.ext_getElem?
    intro j
    by_cases hji : j < i
    · exact hj j hji
    · rw [List.getElem?_eq_none (by omega), List.getElem?_eq_none (by omega)]
  | succ d ih =>
    intro k i x h hk hx hj
    obtain ⟨k, rfl⟩ : ∃ m, k = m + 1 := ⟨k - 1, by omega⟩
    simp only [laws_toIntS.l0]
    rw [if_pos (by omega), if_pos (by omega), if_pos (by omega), wrap_ok (by omega) (by omega)]
    have e : ((i : Int) + 1) = ((i + 1 : Nat) : Int) := by omega
    rw [e]
    refine ih k (i + 1) _ (by omega) (by omega) (by simpa using hx) ?_
    intro j hji
    have e2 : (i : Int).toNat = i := by omega
    rw [e2, List.getElem?_set]
    by_cases hj2 : i = j
    · subst hj2
      rw [if_pos rfl, if_pos (by omega), rd_nat, List.getElem?_eq_getElem (by omega)]
      simp
      rw [List.getElem?_eq_getElem (by omega)]
      rfl
    · rw [if_neg hj2]
      exact hj j (by omega)
theorem toIntS_k (l : List Int) (hl : l.length ≤ 1048576) (k : Nat) (hk : l.length < k) : laws_toIntS.f k l = some l := by
  unfold laws_toIntS.f
  rw [if_pos (by omega), if_pos (by omega)]
  exact toIntS_l0 l (by omega) l.length k 0 _ (by omega) hk (by simp) (by intro j hj; omega)
theorem toIntS_ev (l : List Int) (hl : l.length ≤ 1048576) : Ev (fun k => laws_toIntS.f k l) l := ⟨l.length + 1, fun k hk => toIntS_k l hl k (by omega)⟩

theorem eqIntS_l0 (l : List Int) (hl : l.length ≤ 4611686018427387904) : ∀ (d k i : Nat), i + d = l.length → d < k → laws_eqIntS.l0 k l l (i : Int) = some true := by
  intro d
  induction d with
  | zero =>
    intro k i h hk
    obtain ⟨k, rfl⟩ : ∃ m, k = m + 1 := ⟨k - 1, by omega⟩
    simp only [laws_eqIntS.l0]
    rw [if_neg (by omega)]
  | succ d ih =>
    intro k i h hk
    obtain ⟨k, rfl⟩ : ∃ m, k = m + 1 := ⟨k - 1, by omega⟩
    simp only [laws_eqIntS.l0]
    rw [if_pos (by omega), if_pos (by omega), if_pos (by omega), if_true, wrap_ok (by omega) (by omega)]
    have e : ((i : Int) + 1) = ((i + 1 : Nat) : Int) := by omega
    rw [e]
    exact ih k (i + 1) (by omega) (by omega)
theorem eqIntS_k (l : List Int) (hl : l.length ≤ 4611686018427387904) (k : Nat) (hk : l.length < k) : laws_eqIntS.f k l l = some true := by
  unfold laws_eqIntS.f
  rw [if_pos rfl]
  exact eqIntS_l0 l hl l.length k 0 (by omega) hk
theorem eqIntS_ev (l : List Int) (hl : l.length ≤ 4611686018427387904) : Ev (fun k => laws_eqIntS.f k l l) true := ⟨l.length + 1, fun k hk => eqIntS_k l hl k (by omega)⟩

theorem within_eq (a b c : Int) : impl_within.f a b c = some (decide (b ≤ a ∧ a ≤ c)) := by
  unfold impl_within.f
  by_cases h : a ≥ b <;> simp [h] <;> omega
theorem l1In_eq (a b c : Int) : spec_l1In.f a b c = some (decide (b ≤ a ∧ a ≤ c)) := by
  unfold spec_l1In.f
  by_cases h : a ≥ b <;> simp [h] <;> omega

def allIn (l : List Int) (a b : Int) : Bool := l.all fun x => decide (a ≤ x ∧ x ≤ b)
theorem getD_drop (l : List Int) (i : Nat) (h : i < l.length) : l.drop i = l.getD i 0 :: l.drop (i + 1) := by
  rw [List.drop_eq_getElem_cons h]
  simp [h]
theorem allWithin_l0 (l : List Int) (a b : Int) (hl : l.length ≤ 4611686018427387904) : ∀ (d k i : Nat), i + d = l.length → d < k → impl_allWithin.l0 k a b l (l.length : Int) (i : Int) = some (allIn (l.drop i) a b) := by
  intro d
  induction d with
  | zero =>
    intro k i h hk
    obtain ⟨k, rfl⟩ : ∃ m, k = m + 1 := ⟨k - 1, by omega⟩
    simp only [impl_allWithin.l0]
    rw [if_neg (by omega), List.drop_eq_nil_of_le (by omega)]
    rfl
  | succ d ih =>
    intro k i h hk
    obtain ⟨k, rfl⟩ : ∃ m, k = m + 1 := ⟨k - 1, by omega⟩
    simp only [impl_allWithin.l0]
    rw [if_pos (by omega), if_pos (by omega), if_pos (by omega), wrap_ok (by omega) (by omega), within_eq, getD_drop l i (by omega), rd_nat]
    have e : ((i : Int) + 1) = ((i + 1 : Nat) : Int) := by omega
    rw [e, ih k (i + 1) (by omega) (by omega)]
    simp only [Option.bind_some, allIn, List.all_cons]
    cases decide (a ≤ l.getD i 0 ∧ l.getD i 0 ≤ b) <;> simp
theorem allWithin_k (l : List Int) (a b : Int) (hl : l.length ≤ 4611686018427387904) (k : Nat) (hk : l.length < k) : impl_allWithin.f k l a b = some (allIn l a b) := by
  unfold impl_allWithin.f
  exact allWithin_l0 l a b hl l.length k 0 (by omega) hk
theorem l1All_l0 (l : List Int) (a b : Int) (hl : l.length ≤ 4611686018427387904) : ∀ (d k i : Nat), i + d = l.length → d < k → spec_l1All.l0 k a b l (l.length : Int) (i : Int) = some (allIn (l.drop i) a b) := by
  intro d
  induction d with
  | zero =>
    intro k i h hk
    obtain ⟨k, rfl⟩ : ∃ m, k = m + 1 := ⟨k - 1, by omega⟩
    simp only [spec_l1All.l0]
    rw [if_neg (by omega), List.drop_eq_nil_of_le (by omega)]
    rfl
  | succ d ih =>
    intro k i h hk
    obtain ⟨k, rfl⟩ : ∃ m, k = m + 1 := ⟨k - 1, by omega⟩
    simp only [spec_l1All.l0]
    rw [if_pos (by omega), if_pos (by omega), if_pos (by omega), wrap_ok (by omega) (by omega), l1In_eq, getD_drop l i (by omega), rd_nat]
    have e : ((i : Int) + 1) = ((i + 1 : Nat) : Int) := by omega
    rw [e, ih k (i + 1) (by omega) (by omega)]
    simp only [Option.bind_some, allIn, List.all_cons]
    cases decide (a ≤ l.getD i 0 ∧ l.getD i 0 ≤ b) <;> simp
theorem l1All_k (l : List Int) (a b : Int) (hl : l.length ≤ 4611686018427387904) (k : Nat) (hk : l.length < k) : spec_l1All.f k l a b = some (allIn l a b) := by
  unfold spec_l1All.f
  exact l1All_l0 l a b hl l.length k 0 (by omega) hk

/-- A table, told as data. -/
def isTab (R C : Int) (M : List Int) : Bool := decide (1 ≤ R ∧ R ≤ 6) && decide (1 ≤ C ∧ C ≤ 6) && decide ((M.length : Int) = R) && allIn M 0 (wrap64 (shl .i64 1 C - 1))
theorem IsTable_k (R C : Int) (M : List Int) (hM : M.length ≤ 4611686018427387904) (k : Nat) (hk : M.length < k) : impl_IsTable.f k R C M = some (isTab R C M) := by
  unfold impl_IsTable.f isTab
  simp only [within_eq, Option.bind_some]
  by_cases h1 : 1 ≤ R ∧ R ≤ 6
  · by_cases h2 : 1 ≤ C ∧ C ≤ 6
    · by_cases h3 : (M.length : Int) = R
      · rw [if_pos h3, if_pos (show 0 ≤ C by omega), allWithin_k M _ _ hM k hk]
        simp [h1, h2, h3]
      · rw [if_neg h3]
        simp [h1, h2, h3]
    · simp [h1, h2]
  · simp [h1]
theorem feGood_k (R C : Int) (M : List Int) (hM : M.length ≤ 4611686018427387904) (k : Nat) (hk : M.length < k) : spec_feGood.f k R C M = some (isTab R C M) := by
  unfold spec_feGood.f isTab
  simp only [l1In_eq, Option.bind_some]
  by_cases h1 : 1 ≤ R ∧ R ≤ 6
  · by_cases h2 : 1 ≤ C ∧ C ≤ 6
    · by_cases h3 : (M.length : Int) = R
      · rw [if_pos h3, if_pos (show 0 ≤ C by omega), l1All_k M _ _ hM k hk]
        simp [h1, h2, h3]
      · rw [if_neg h3]
        simp [h1, h2, h3]
    · simp [h1, h2]
  · simp [h1]
theorem toTable_k (R C : Int) (M : List Int) (hM : M.length ≤ 1048576) (k : Nat) (hk : M.length < k) : laws_toTable.f k R C M = some (R, C, M) := by
  unfold laws_toTable.f
  rw [toIntS_k M hM k hk]
  rfl
theorem eqTable_k (R C : Int) (M : List Int) (hM : M.length ≤ 1048576) (k : Nat) (hk : M.length < k) : laws_eqTable.f k R C M R C M = some true := by
  unfold laws_eqTable.f
  rw [if_pos rfl, if_pos rfl, eqIntS_k M (by omega) k hk]
  rfl
theorem szTable_eq (R C : Int) (M : List Int) (hm : M.length ≤ maxLen) : laws_szTable.f R C M 1048576 = some (if M.length ≤ 1048576 then 1048576 - (M.length : Int) else -1) := by
  unfold maxLen at hm
  unfold laws_szTable.f laws_szIntS.f
  rw [wrap_ok (by omega) (by omega)]
  by_cases h : M.length ≤ 1048576
  · rw [if_neg (by omega), if_pos h]
    simp only [Option.bind_some]
    rw [if_neg (by omega)]
  · rw [if_pos (by omega), if_neg h]
    simp

/-! Sets as numbers. -/
def andn (a b : Nat) : Nat := a ^^^ (a &&& b)
theorem andn_bit (a b i : Nat) : (andn a b).testBit i = (a.testBit i && !b.testBit i) := by
  unfold andn
  rw [Nat.testBit_xor, Nat.testBit_and]
  cases a.testBit i <;> cases b.testBit i <;> rfl
theorem wrap_i64_nat (n : Nat) (h : n < 2 ^ 63) : IntKind.i64.wrap (n : Int) = (n : Int) := by
  rw [IntKind.wrap_i64]
  have : (n : Int) < 9223372036854775808 := by omega
  omega
theorem ofInt_toNat (n : Nat) (h : n < 2 ^ 63) : (BitVec.ofInt 64 (n : Int)).toNat = n := by
  rw [BitVec.ofInt_natCast, BitVec.toNat_ofNat, Nat.mod_eq_of_lt (by omega)]
theorem and_nat (a b : Nat) (ha : a < 2 ^ 63) (hb : b < 2 ^ 63) : Go.bits .and .i64 (a : Int) (b : Int) = ((a &&& b : Nat) : Int) := by
  unfold Go.bits
  show IntKind.i64.wrap ((BitVec.ofInt 64 (a : Int) &&& BitVec.ofInt 64 (b : Int)).toNat : Int) = _
  rw [BitVec.toNat_and, ofInt_toNat a ha, ofInt_toNat b hb]
  exact wrap_i64_nat _ (Nat.lt_of_le_of_lt Nat.and_le_left ha)
theorem or_nat (a b : Nat) (ha : a < 2 ^ 63) (hb : b < 2 ^ 63) : Go.bits .or .i64 (a : Int) (b : Int) = ((a ||| b : Nat) : Int) := by
  unfold Go.bits
  show IntKind.i64.wrap ((BitVec.ofInt 64 (a : Int) ||| BitVec.ofInt 64 (b : Int)).toNat : Int) = _
  rw [BitVec.toNat_or, ofInt_toNat a ha, ofInt_toNat b hb]
  exact wrap_i64_nat _ (Nat.or_lt_two_pow ha hb)
theorem xor_nat (a b : Nat) (ha : a < 2 ^ 63) (hb : b < 2 ^ 63) : Go.bits .xor .i64 (a : Int) (b : Int) = ((a ^^^ b : Nat) : Int) := by
  unfold Go.bits
  show IntKind.i64.wrap ((BitVec.ofInt 64 (a : Int) ^^^ BitVec.ofInt 64 (b : Int)).toNat : Int) = _
  rw [BitVec.toNat_xor, ofInt_toNat a ha, ofInt_toNat b hb]
  exact wrap_i64_nat _ (Nat.xor_lt_two_pow ha hb)
theorem andn_le (a b : Nat) : andn a b ≤ a := Nat.le_of_testBit fun i h => by
  rw [andn_bit] at h
  cases h1 : a.testBit i
  · simp [h1] at h
  · rfl
theorem andNot_nat (a b : Nat) (ha : a < 2 ^ 63) (hb : b < 2 ^ 63) : Go.bits .andNot .i64 (a : Int) (b : Int) = ((andn a b : Nat) : Int) := by
  unfold Go.bits
  show IntKind.i64.wrap ((BitVec.ofInt 64 (a : Int) &&& ~~~ BitVec.ofInt 64 (b : Int)).toNat : Int) = _
  have e : (BitVec.ofInt 64 (a : Int) &&& ~~~ BitVec.ofInt 64 (b : Int)).toNat = andn a b := by
    apply Nat.eq_of_testBit_eq
    intro i
    rw [andn_bit, BitVec.toNat_and, Nat.testBit_and, ofInt_toNat a ha, BitVec.testBit_toNat, BitVec.getLsbD_not, BitVec.ofInt_natCast, BitVec.getLsbD_ofNat]
    by_cases hi : i < 64
    · rw [decide_eq_true hi]
      simp only [Bool.true_and]
    · have : a.testBit i = false := Nat.testBit_lt_two_pow (Nat.lt_of_lt_of_le ha (Nat.pow_le_pow_right (by omega) (by omega)))
      simp [this]
  rw [e]
  exact wrap_i64_nat _ (Nat.lt_of_le_of_lt (andn_le a b) ha)
theorem andn_zero (a b : Nat) : andn a b = 0 ↔ ∀ i, a.testBit i = true → b.testBit i = true := by
  constructor
  · intro h i hi
    have := andn_bit a b i
    rw [h, hi] at this
    cases hb : b.testBit i
    · simp [hb] at this
    · rfl
  · intro h
    apply Nat.eq_of_testBit_eq
    intro i
    rw [andn_bit]
    cases ha : a.testBit i
    · simp
    · simp [h i ha]
theorem andn_zero_le {a b : Nat} (h : andn a b = 0) : a ≤ b := Nat.le_of_testBit fun i hi => (andn_zero a b).1 h i hi
theorem andNot_le {p i : Int} (h0 : 0 ≤ p) (h1 : 0 ≤ i) (hp : p < 9223372036854775808) (hi : i < 9223372036854775808) (h : Go.bits .andNot .i64 p i = 0) : p ≤ i := by
  obtain ⟨a, rfl⟩ := Int.eq_ofNat_of_zero_le h0
  obtain ⟨b, rfl⟩ := Int.eq_ofNat_of_zero_le h1
  rw [andNot_nat a b (by omega) (by omega)] at h
  have := andn_zero_le (a := a) (b := b) (by omega)
  omega

/-- The numbers a, a + 1, .. -/
def iota (a : Int) (n : Nat) : List Int := (List.range n).map fun (j : Nat) => a + (j : Int)
theorem iota_length (a : Int) (n : Nat) : (iota a n).length = n := by simp [iota]
theorem markIntS_l0 (a : Int) (h0 : 0 ≤ a) : ∀ (d k i : Nat) (l : List Int), i + d = l.length → d < k → a + l.length < 4611686018427387904 → (∀ j, j < i → l[j]? = some (a + (j : Int))) →
    laws_markIntS.l0 k l (a + (i : Int)) (i : Int) = some (a + (l.length : Int), iota a l.length) := by
  intro d
  induction d with
  | zero =>
    intro k i l h hk ha hj
    obtain ⟨k, rfl⟩ : ∃ m, k = m + 1 := ⟨k - 1, by omega⟩
    simp only [laws_markIntS.l0]
    rw [if_neg (by omega)]
    have e : i = l.length := by omega
    subst e
    have e2 : l = iota a l.length := by
      apply List.ext_getElem?
      intro j
      by_cases hj2 : j < l.length
      · rw [hj j hj2]
        simp [iota, hj2]
      · rw [List.getElem?_eq_none (by omega), List.getElem?_eq_none (by rw [iota_length]; omega)]
    rw [← e2]
  | succ d ih =>
    intro k i l h hk ha hj
    obtain ⟨k, rfl⟩ : ∃ m, k = m + 1 := ⟨k - 1, by omega⟩
    simp only [laws_markIntS.l0]
    rw [if_pos (by omega), if_pos (by omega), wrap_ok (by omega) (by omega), wrap_ok (by omega) (by omega)]
    have e1 : ((i : Int) + 1) = ((i + 1 : Nat) : Int) := by omega
    have e2 : (a + (i : Int) + 1) = a + ((i + 1 : Nat) : Int) := by omega
    have e3 : (i : Int).toNat = i := by omega
    rw [e1, e2, e3]
    have := ih k (i + 1) (l.set i (a + (i : Int))) (by simp; omega) (by omega) (by simpa using ha) (by
      intro j hji
      rw [List.getElem?_set]
      by_cases e : i = j
      · subst e
        rw [if_pos rfl, if_pos (by omega)]
      · rw [if_neg e]
        exact hj j (by omega))
    simpa using this
theorem markIntS_k (l : List Int) (a : Int) (h0 : 0 ≤ a) (ha : a + l.length < 4611686018427387904) (k : Nat) (hk : l.length < k) : laws_markIntS.f k l a = some (a + (l.length : Int), iota a l.length) := by
  unfold laws_markIntS.f
  have := markIntS_l0 a h0 l.length k 0 l (by omega) hk ha (by intro j hj; omega)
  simpa using this
theorem heldIntS_l0 (a : Int) (n : Nat) (h0 : 0 ≤ a) (ha : a + n < 4611686018427387904) : ∀ (d k i : Nat), i + d = n → d < k → laws_heldIntS.l0 k (iota a n) (a + (i : Int)) (i : Int) = some (a + (n : Int)) := by
  intro d
  induction d with
  | zero =>
    intro k i h hk
    obtain ⟨k, rfl⟩ : ∃ m, k = m + 1 := ⟨k - 1, by omega⟩
    simp only [laws_heldIntS.l0, iota_length]
    rw [if_neg (by omega)]
    congr 1
    omega
  | succ d ih =>
    intro k i h hk
    obtain ⟨k, rfl⟩ : ∃ m, k = m + 1 := ⟨k - 1, by omega⟩
    simp only [laws_heldIntS.l0, iota_length]
    have e4 : rd (iota a n) (i : Int) = a + (i : Int) := by
      rw [rd_nat]
      simp [iota, List.getD_eq_getElem?_getD, show i < n by omega]
    rw [if_pos (by omega), if_pos (by omega), if_pos e4, wrap_ok (by omega) (by omega), wrap_ok (by omega) (by omega)]
    have e1 : ((i : Int) + 1) = ((i + 1 : Nat) : Int) := by omega
    have e2 : (a + (i : Int) + 1) = a + ((i + 1 : Nat) : Int) := by omega
    rw [e1, e2]
    exact ih k (i + 1) (by omega) (by omega)
theorem heldIntS_k (a : Int) (n : Nat) (h0 : 0 ≤ a) (ha : a + n < 4611686018427387904) (k : Nat) (hk : n < k) : laws_heldIntS.f k (iota a n) a = some (a + (n : Int)) := by
  unfold laws_heldIntS.f
  have := heldIntS_l0 a n h0 ha n k 0 (by omega) hk
  simpa using this
theorem one_add_nonneg (m : Nat) : ¬ (1 + (m : Int) < 0) := by omega

/-- The set of the j < n for which q tells true. -/
def bitsum (q : Nat → Bool) : Nat → Nat
  | 0 => 0
  | j + 1 => bitsum q j ||| (if q j then 2 ^ j else 0)
theorem bitsum_lt (q : Nat → Bool) (n : Nat) : bitsum q n < 2 ^ n := by
  induction n with
  | zero => simp [bitsum]
  | succ n ih =>
    rw [bitsum]
    apply Nat.or_lt_two_pow
    · exact Nat.lt_of_lt_of_le ih (Nat.pow_le_pow_right (by omega) (by omega))
    · split
      · exact Nat.pow_lt_pow_right (by omega) (by omega)
      · exact Nat.two_pow_pos _
theorem bitsum_bit (q : Nat → Bool) (n i : Nat) : (bitsum q n).testBit i = (decide (i < n) && q i) := by
  induction n with
  | zero => simp [bitsum]
  | succ n ih =>
    rw [bitsum, Nat.testBit_or, ih]
    by_cases e : i = n
    · subst e
      cases h : q i <;> simp [Nat.testBit_two_pow_self]
    · have : (if q n then 2 ^ n else 0).testBit i = false := by
        split
        · rw [Nat.testBit_two_pow_of_ne (by omega)]
        · simp
      rw [this]
      by_cases h : i < n
      · simp [h, show i < n + 1 by omega]
      · simp [h, show ¬ i < n + 1 by omega]
theorem bitsum_congr {q q' : Nat → Bool} (n : Nat) (h : ∀ i, i < n → q i = q' i) : bitsum q n = bitsum q' n := by
  induction n with
  | zero => rfl
  | succ n ih => rw [bitsum, bitsum, ih (fun i hi => h i (by omega)), h n (by omega)]
theorem shl_one (j : Nat) (h : j < 62) : shl .i64 1 (j : Int) = ((2 ^ j : Nat) : Int) := by
  unfold shl
  have e : min (j : Int).toNat IntKind.i64.bits = j := by
    show min (j : Int).toNat 64 = j
    omega
  rw [e]
  have e2 : (1 : Int) * 2 ^ j = ((2 ^ j : Nat) : Int) := by simp
  rw [e2]
  exact wrap_i64_nat _ (Nat.pow_lt_pow_right (by omega) (by omega))
theorem or_shl (a j : Nat) (ha : a < 2 ^ 62) (hj : j < 62) : Go.bits .or .i64 (a : Int) (shl .i64 1 (j : Int)) = ((a ||| 2 ^ j : Nat) : Int) := by
  rw [shl_one j hj]
  exact or_nat a _ (Nat.lt_of_lt_of_le ha (by decide)) (Nat.pow_lt_pow_right (by omega) (by omega))
/-- The rows' sets. -/
def relList (R C : Nat) (p : Nat → Nat → Bool) : List Int := (List.range R).map fun i => ((bitsum (p i) C : Nat) : Int)
theorem relList_length (R C : Nat) (p : Nat → Nat → Bool) : (relList R C p).length = R := by simp [relList]
theorem relList_congr {R C : Nat} {p p' : Nat → Nat → Bool} (h : ∀ i j, i < R → j < C → p i j = p' i j) : relList R C p = relList R C p' := by
  unfold relList
  apply List.map_congr_left
  intro i hi
  rw [bitsum_congr C (fun j hj => h i j (by simpa using hi) hj)]
/-- A list that is being filled: the first i rows are whole, the row i has the columns < j, the others are 0. -/
def part (R C : Nat) (p : Nat → Nat → Bool) (i j : Nat) : List Int := (List.range R).map fun r => if r < i then ((bitsum (p r) C : Nat) : Int) else if r = i then ((bitsum (p r) j : Nat) : Int) else 0
theorem part_length (R C : Nat) (p : Nat → Nat → Bool) (i j : Nat) : (part R C p i j).length = R := by simp [part]
theorem part_start (R C : Nat) (p : Nat → Nat → Bool) : List.replicate R 0 = part R C p 0 0 := by
  apply List.ext_getElem?
  intro r
  by_cases h : r < R
  · simp [part, h, List.getElem?_replicate, bitsum]
  · rw [List.getElem?_eq_none (by simp; omega), List.getElem?_eq_none (by rw [part_length]; omega)]
theorem part_next (R C : Nat) (p : Nat → Nat → Bool) (i : Nat) : part R C p i C = part R C p (i + 1) 0 := by
  apply List.ext_getElem?
  intro r
  by_cases h : r < R
  · simp only [part, List.getElem?_map, List.getElem?_range h, Option.map_some]
    by_cases h1 : r < i
    · simp [h1, show r < i + 1 by omega]
    · by_cases h2 : r = i
      · simp [h2]
      · simp [h1, h2, show ¬ r < i + 1 by omega, bitsum]
  · rw [List.getElem?_eq_none (by rw [part_length]; omega), List.getElem?_eq_none (by rw [part_length]; omega)]
theorem part_end (R C : Nat) (p : Nat → Nat → Bool) : part R C p R 0 = relList R C p := by
  unfold part relList
  apply List.map_congr_left
  intro r hr
  rw [if_pos (by simpa using hr)]
theorem part_rd (R C : Nat) (p : Nat → Nat → Bool) (i j : Nat) (hi : i < R) : rd (part R C p i j) (i : Int) = ((bitsum (p i) j : Nat) : Int) := by
  rw [rd_nat]
  simp [part, List.getD_eq_getElem?_getD, hi]
theorem part_set (R C : Nat) (p : Nat → Nat → Bool) (i j : Nat) (hi : i < R) (hp : p i j = true) : (part R C p i j).set i ((bitsum (p i) j ||| 2 ^ j : Nat) : Int) = part R C p i (j + 1) := by
  apply List.ext_getElem?
  intro r
  by_cases h : r < R
  · rw [List.getElem?_set]
    simp only [part, List.getElem?_map, List.getElem?_range h, Option.map_some, List.length_map, List.length_range]
    by_cases e : i = r
    · subst e
      simp [h, bitsum, hp]
    · rw [if_neg e]
      simp [show ¬ r = i from fun h => e h.symm]
  · rw [List.getElem?_eq_none (by simp [part_length]; omega), List.getElem?_eq_none (by rw [part_length]; omega)]
theorem part_skip (R C : Nat) (p : Nat → Nat → Bool) (i j : Nat) (hp : p i j = false) : part R C p i j = part R C p i (j + 1) := by
  unfold part
  apply List.map_congr_left
  intro r _
  by_cases h1 : r < i
  · simp [h1]
  · by_cases h2 : r = i
    · subst h2
      simp [bitsum, hp]
    · simp [h1, h2]

theorem markTable_k (R C : Int) (l : List Int) (hl : l.length ≤ 1048576) (k : Nat) (hk : l.length < k) : laws_markTable.f k R C l 1 = some (1 + (l.length : Int), iota 1 l.length) := by
  unfold laws_markTable.f
  rw [markIntS_k l 1 (by omega) (by omega) k hk]
  rfl
theorem heldTable_k (R C : Int) (m : Nat) (hl : m ≤ 1048576) (k : Nat) (hk : m < k) : laws_heldTable.f k R C (iota 1 m) 1 = some (1 + (m : Int)) := by
  unfold laws_heldTable.f
  rw [heldIntS_k 1 m (by omega) (by omega) k hk]
  simp only [Option.bind_some]
  rw [if_neg (by omega)]

/-- The columns of a table's marks, as a number. -/
theorem allIn_iff (l : List Int) (a b : Int) : allIn l a b = true ↔ ∀ x ∈ l, a ≤ x ∧ x ≤ b := by
  unfold allIn
  rw [List.all_eq_true]
  simp
/-- What a table is: its rows, its columns, and each row's marks as a number. -/
theorem isTab_iff (R C : Int) (M : List Int) : isTab R C M = true ↔ ∃ (r c : Nat) (ms : List Nat), R = (r : Int) ∧ C = (c : Int) ∧ M = ms.map (fun (x : Nat) => (x : Int)) ∧ 1 ≤ r ∧ r ≤ 6 ∧ 1 ≤ c ∧ c ≤ 6 ∧ ms.length = r ∧ ∀ x ∈ ms, x < 2 ^ c := by
  unfold isTab
  simp only [Bool.and_eq_true, decide_eq_true_eq, allIn_iff]
  constructor
  · rintro ⟨⟨⟨h1, h2⟩, h3⟩, h4⟩
    have ec : C = ((C.toNat : Nat) : Int) := by omega
    have e5 : wrap64 (shl .i64 1 C - 1) = ((2 ^ C.toNat - 1 : Nat) : Int) := by
      rw [ec, shl_one C.toNat (by omega)]
      have hp : 0 < 2 ^ C.toNat := Nat.two_pow_pos _
      have hq : 2 ^ C.toNat ≤ 2 ^ 6 := Nat.pow_le_pow_right (by omega) (by omega)
      have e6 : (((C.toNat : Nat) : Int)).toNat = C.toNat := by omega
      rw [e6, wrap_ok (by omega) (by omega)]
      omega
    rw [e5] at h4
    refine ⟨R.toNat, C.toNat, M.map Int.toNat, by omega, ec, ?_, by omega, by omega, by omega, by omega, by simp; omega, ?_⟩
    · rw [List.map_map]
      conv => lhs; rw [← List.map_id M]
      apply List.map_congr_left
      intro x hx
      have := h4 x hx
      show x = ((x.toNat : Nat) : Int)
      omega
    · intro x hx
      obtain ⟨y, hy, rfl⟩ := List.mem_map.1 hx
      have := h4 y hy
      have hp : 0 < 2 ^ C.toNat := Nat.two_pow_pos _
      omega
  · rintro ⟨r, c, ms, rfl, rfl, rfl, h1, h2, h3, h4, h5, h6⟩
    have hp : 0 < 2 ^ c := Nat.two_pow_pos _
    have hq : 2 ^ c ≤ 2 ^ 6 := Nat.pow_le_pow_right (by omega) (by omega)
    have e5 : wrap64 (shl .i64 1 (c : Int) - 1) = ((2 ^ c - 1 : Nat) : Int) := by
      rw [shl_one c (by omega), wrap_ok (by omega) (by omega)]
      omega
    refine ⟨⟨⟨by omega, by omega⟩, by simp; omega⟩, ?_⟩
    intro x hx
    obtain ⟨y, hy, rfl⟩ := List.mem_map.1 hx
    have := h6 y hy
    rw [e5]
    omega
/-- Is a row marked in a column? -/
def mk (ms : List Nat) (r c : Nat) : Bool := (ms.getD r 0).testBit c
theorem rd_map (ms : List Nat) (i : Nat) : rd (ms.map (fun (x : Nat) => (x : Int))) (i : Int) = ((ms.getD i 0 : Nat) : Int) := by
  rw [rd_nat]
  simp only [List.getD_eq_getElem?_getD, List.getElem?_map]
  cases ms[i]? <;> simp
theorem getD_lt {ms : List Nat} {b : Nat} (hb : 0 < b) (h : ∀ x ∈ ms, x < b) (i : Nat) : ms.getD i 0 < b := by
  rw [List.getD_eq_getElem?_getD]
  cases hx : ms[i]? with
  | none => simpa using hb
  | some x => exact h x (List.mem_of_getElem? hx)
/-- The bit of a number, as Go asks it. -/
theorem shr_nat (x c : Nat) (hc : c < 64) : shr .i64 (x : Int) (c : Int) = ((x / 2 ^ c : Nat) : Int) := by
  unfold shr
  have e : min (c : Int).toNat IntKind.i64.bits = c := by
    show min (c : Int).toNat 64 = c
    omega
  rw [e]
  simp
theorem bit_and (x c : Nat) (hx : x < 2 ^ 63) (hc : c < 64) : (Go.bits .and .i64 (shr .i64 (x : Int) (c : Int)) 1 == 1) = x.testBit c := by
  rw [shr_nat x c hc]
  have h1 : x / 2 ^ c < 2 ^ 63 := Nat.lt_of_le_of_lt (Nat.div_le_self _ _) hx
  have e : Go.bits .and .i64 ((x / 2 ^ c : Nat) : Int) 1 = ((x / 2 ^ c &&& 1 : Nat) : Int) := and_nat _ 1 h1 (by decide)
  rw [e, Nat.and_one_is_mod]
  have e2 : x.testBit c = decide (x / 2 ^ c % 2 = 1) := Nat.testBit_eq_decide_div_mod_eq
  rw [e2]
  by_cases h : x / 2 ^ c % 2 = 1
  · simp [h]
  · have : x / 2 ^ c % 2 = 0 := by omega
    simp [this]
theorem marked_k (R C : Int) (ms : List Nat) (r c : Nat) (hb : ∀ x ∈ ms, x < 64) (hr : r < ms.length) (hc : c < 60) : impl_Table_marked.f R C (ms.map (fun (x : Nat) => (x : Int))) (r : Int) (c : Int) = some (mk ms r c) := by
  unfold impl_Table_marked.f mk
  have := getD_lt (b := 64) (by omega) hb r
  rw [if_pos (by omega), if_pos (by simpa using hr), if_pos (by omega), rd_map, bit_and _ c (by omega) (by omega)]

theorem tmod_nat (n : Nat) : Int.tmod (n : Int) 2 = ((n % 2 : Nat) : Int) := by
  rw [Int.tmod_eq_emod_of_nonneg (by omega)]
  omega
theorem orHas_k (x i : Nat) (hi : i < 64) : spec_orHas.f (x : Int) (i : Int) = some (x.testBit i) := by
  unfold spec_orHas.f
  rw [if_pos (by omega), shr_nat x i hi, tmod_nat]
  have e2 : x.testBit i = decide (x / 2 ^ i % 2 = 1) := Nat.testBit_eq_decide_div_mod_eq
  rw [e2]
  congr 1
  by_cases h : x / 2 ^ i % 2 = 1
  · simp [h]
  · have : x / 2 ^ i % 2 = 0 := by omega
    simp [this]

/-- Each number of a list, from an index, is more than the one before. -/
def Rising (l : List Int) : Prop := ∀ j, 1 ≤ j → j < l.length → l.getD (j - 1) 0 < l.getD j 0
theorem isIncreasing_l0 (l : List Int) (hl : l.length ≤ 4611686018427387904) : ∀ (d k i : Nat), i + d = l.length ∨ (d = 0 ∧ l.length < i) → 1 ≤ i → i ≤ 4611686018427387904 → d < k →
    ∃ b, impl_isIncreasing.l0 k l (i : Int) = some b ∧ (b = true ↔ ∀ j, i ≤ j → j < l.length → l.getD (j - 1) 0 < l.getD j 0) := by
  intro d
  induction d with
  | zero =>
    intro k i h _ _ hk
    obtain ⟨k, rfl⟩ : ∃ m, k = m + 1 := ⟨k - 1, by omega⟩
    simp only [impl_isIncreasing.l0]
    refine ⟨true, by rw [if_neg (by omega)], ?_⟩
    simp only [true_iff]
    intro j h1 h2
    omega
  | succ d ih =>
    intro k i h h1 hi hk
    obtain ⟨k, rfl⟩ : ∃ m, k = m + 1 := ⟨k - 1, by omega⟩
    simp only [impl_isIncreasing.l0]
    have e : ((i : Int) - 1) = ((i - 1 : Nat) : Int) := by omega
    have e2 : ((i : Int) + 1) = ((i + 1 : Nat) : Int) := by omega
    rw [if_pos (by omega), wrap_ok (by omega) (by omega), wrap_ok (by omega) (by omega), if_pos (by omega), if_pos (by omega), if_pos (by omega), e, rd_nat, rd_nat, e2]
    by_cases hc : l.getD (i - 1) 0 ≥ l.getD i 0
    · refine ⟨false, by rw [if_pos hc], ?_⟩
      constructor
      · intro hh
        cases hh
      · intro hh
        have := hh i (by omega) (by omega)
        omega
    · obtain ⟨b, hb1, hb2⟩ := ih k (i + 1) (by omega) (by omega) (by omega) (by omega)
      refine ⟨b, by rw [if_neg hc, hb1], hb2.trans ?_⟩
      constructor
      · intro hh j h3 h4
        by_cases he : j = i
        · subst he
          omega
        · exact hh j (by omega) h4
      · intro hh j h3 h4
        exact hh j (by omega) h4
theorem isIncreasing_k (l : List Int) (hl : l.length ≤ 4611686018427387900) (k : Nat) (hk : l.length < k) : ∃ b, impl_isIncreasing.f k l = some b ∧ (b = true ↔ Rising l) := by
  unfold impl_isIncreasing.f
  cases l with
  | nil => exact isIncreasing_l0 [] (by simp) 0 k 1 (by simp) (by omega) (by omega) (by simp at hk; omega)
  | cons a l => exact isIncreasing_l0 (a :: l) (by omega) l.length k 1 (by simp; omega) (by omega) (by omega) (by simp at hk; omega)
/-- In the bounds and rising. -/
def InRise (l : List Int) (a b : Int) (i : Nat) : Prop := ∀ j, i ≤ j → j < l.length → (a ≤ l.getD j 0 ∧ l.getD j 0 ≤ b) ∧ (1 ≤ j → l.getD (j - 1) 0 < l.getD j 0)
theorem rising_l0 (l : List Int) (a b : Int) (hl : l.length ≤ 4611686018427387900) : ∀ (d k i : Nat), i + d = l.length → d < k →
    ∃ r, spec_l1Rising.l0 k l a b l (l.length : Int) (i : Int) = some r ∧ (r = true ↔ InRise l a b i) := by
  intro d
  induction d with
  | zero =>
    intro k i h hk
    obtain ⟨k, rfl⟩ : ∃ m, k = m + 1 := ⟨k - 1, by omega⟩
    simp only [spec_l1Rising.l0]
    refine ⟨true, by rw [if_neg (by omega)], ?_⟩
    simp only [true_iff]
    intro j h1 h2
    omega
  | succ d ih =>
    intro k i h hk
    obtain ⟨k, rfl⟩ : ∃ m, k = m + 1 := ⟨k - 1, by omega⟩
    obtain ⟨r, hr1, hr2⟩ := ih k (i + 1) (by omega) (by omega)
    simp only [spec_l1Rising.l0]
    have e2 : ((i : Int) + 1) = ((i + 1 : Nat) : Int) := by omega
    rw [if_pos (by omega), if_pos (by omega), if_pos (by omega), wrap_ok (x := (i : Int) + 1) (by omega) (by omega), l1In_eq, rd_nat, e2, hr1]
    simp only [Option.bind_some]
    by_cases h1 : a ≤ l.getD i 0 ∧ l.getD i 0 ≤ b
    · rw [if_pos (by simpa using h1)]
      by_cases h0 : i = 0
      · subst h0
        refine ⟨r, by rw [if_neg (by omega)], hr2.trans ?_⟩
        constructor
        · intro hh j h3 h4
          by_cases he : j = 0
          · subst he
            exact ⟨h1, fun h => by omega⟩
          · exact hh j (by omega) h4
        · intro hh j h3 h4
          exact hh j (by omega) h4
      · have e : ((i : Int) - 1) = ((i - 1 : Nat) : Int) := by omega
        rw [if_pos (by omega), wrap_ok (by omega) (by omega), if_pos (by omega), if_pos (by omega), e, rd_nat]
        by_cases hc : l.getD (i - 1) 0 ≥ l.getD i 0
        · refine ⟨false, by rw [if_pos hc], ?_⟩
          constructor
          · intro hh
            cases hh
          · intro hh
            have := (hh i (by omega) (by omega)).2 (by omega)
            omega
        · refine ⟨r, by rw [if_neg hc], hr2.trans ?_⟩
          constructor
          · intro hh j h3 h4
            by_cases he : j = i
            · subst he
              exact ⟨h1, fun _ => by omega⟩
            · exact hh j (by omega) h4
          · intro hh j h3 h4
            exact hh j (by omega) h4
    · refine ⟨false, by rw [if_neg (by simpa using h1)], ?_⟩
      constructor
      · intro hh
        cases hh
      · intro hh
        exact absurd (hh i (by omega) (by omega)).1 h1
theorem rising_k (l : List Int) (a b : Int) (hl : l.length ≤ 4611686018427387900) (k : Nat) (hk : l.length < k) : ∃ r, spec_l1Rising.f k l a b = some r ∧ (r = true ↔ InRise l a b 0) := by
  unfold spec_l1Rising.f
  exact rising_l0 l a b hl l.length k 0 (by omega) hk

/-- Is a cell without a mark? -/
def unm (C : Nat) (ms : List Nat) (x : Int) : Prop := mk ms (x.toNat / C) (x.toNat % C) = false
/-- What both call cells. -/
def Cells (N : Int) (C : Nat) (ms : List Nat) (l : List Int) : Prop := (∀ j, j < l.length → (0 ≤ l.getD j 0 ∧ l.getD j 0 ≤ N - 1) ∧ unm C ms (l.getD j 0)) ∧ Rising l
theorem tdiv_nat (x : Int) (C : Nat) (h : 0 ≤ x) : Int.tdiv x (C : Int) = ((x.toNat / C : Nat) : Int) := by
  obtain ⟨n, rfl⟩ := Int.eq_ofNat_of_zero_le h
  rfl
theorem tmod_nat2 (x : Int) (C : Nat) (h : 0 ≤ x) : Int.tmod x (C : Int) = ((x.toNat % C : Nat) : Int) := by
  obtain ⟨n, rfl⟩ := Int.eq_ofNat_of_zero_le h
  rfl
theorem area_eq (R C : Nat) (hR : R ≤ 6) (hC : C ≤ 6) : wrap64 (wrap64 ((R : Int) * (C : Int)) - 1) = ((R * C : Nat) : Int) - 1 := by
  have h : R * C ≤ 6 * 6 := Nat.mul_le_mul hR hC
  have e : (R : Int) * (C : Int) = ((R * C : Nat) : Int) := by simp
  rw [e, wrap_ok (x := ((R * C : Nat) : Int)) (by omega) (by omega), wrap_ok (by omega) (by omega)]
theorem wrap_small (n : Nat) (h : n < 1000) : wrap64 (n : Int) = (n : Int) := wrap_ok (by omega) (by omega)
theorem cell_row (R C : Nat) (x : Int) (h0 : 0 ≤ x) (h : x ≤ ((R * C : Nat) : Int) - 1) : x.toNat / C < R := by
  apply Nat.div_lt_of_lt_mul
  rw [Nat.mul_comm]
  omega
theorem areCells_l0 (R C : Nat) (ms : List Nat) (hR : ms.length = R) (hR6 : R ≤ 6) (hC0 : 1 ≤ C) (hC : C ≤ 6) (hb : ∀ x ∈ ms, x < 64) (l : List Int) (hl : l.length ≤ 1048576) : ∀ (d k i : Nat), i + d = l.length → d + l.length + 1 < k →
    ∃ b, impl_Table_areCells.l0 k l l (l.length : Int) (i : Int) (R : Int) (C : Int) (ms.map (fun (x : Nat) => (x : Int))) = some b ∧ (b = true ↔ (∀ j, i ≤ j → j < l.length → (0 ≤ l.getD j 0 ∧ l.getD j 0 ≤ ((R * C : Nat) : Int) - 1) ∧ unm C ms (l.getD j 0)) ∧ Rising l) := by
  intro d
  induction d with
  | zero =>
    intro k i h hk
    obtain ⟨k, rfl⟩ : ∃ m, k = m + 1 := ⟨k - 1, by omega⟩
    simp only [impl_Table_areCells.l0]
    obtain ⟨b, hb1, hb2⟩ := isIncreasing_k l (by omega) k (by omega)
    refine ⟨b, by rw [if_neg (by omega), hb1]; rfl, hb2.trans ⟨fun hh => ⟨fun j h1 h2 => by omega, hh⟩, fun hh => hh.2⟩⟩
  | succ d ih =>
    intro k i h hk
    obtain ⟨k, rfl⟩ : ∃ m, k = m + 1 := ⟨k - 1, by omega⟩
    obtain ⟨b, hb1, hb2⟩ := ih k (i + 1) (by omega) (by omega)
    simp only [impl_Table_areCells.l0]
    have e2 : ((i : Int) + 1) = ((i + 1 : Nat) : Int) := by omega
    rw [if_pos (by omega), if_pos (by omega), if_pos (by omega), area_eq R C hR6 hC, within_eq, rd_nat]
    simp only [Option.bind_some]
    by_cases h1 : 0 ≤ l.getD i 0 ∧ l.getD i 0 ≤ ((R * C : Nat) : Int) - 1
    · have hrow := cell_row R C (l.getD i 0) h1.1 h1.2
      have hcol : (l.getD i 0).toNat % C < C := Nat.mod_lt _ (by omega)
      rw [if_pos (by simpa using h1), if_neg (by omega), tdiv_nat _ _ h1.1, tmod_nat2 _ _ h1.1, wrap_small _ (Nat.lt_of_lt_of_le hrow (by omega)), wrap_ok (x := (i : Int) + 1) (by omega) (by omega), marked_k (R : Int) (C : Int) ms _ _ hb (by omega) (by omega), e2, hb1]
      simp only [Option.bind_some]
      cases hm : mk ms ((l.getD i 0).toNat / C) ((l.getD i 0).toNat % C)
      · refine ⟨b, by rw [if_neg (by simp)], hb2.trans ?_⟩
        constructor
        · intro hh
          refine ⟨fun j h3 h4 => ?_, hh.2⟩
          by_cases he : j = i
          · subst he
            exact ⟨h1, hm⟩
          · exact hh.1 j (by omega) h4
        · intro hh
          exact ⟨fun j h3 h4 => hh.1 j (by omega) h4, hh.2⟩
      · refine ⟨false, by rw [if_pos rfl], ?_⟩
        constructor
        · intro hh
          cases hh
        · intro hh
          have := (hh.1 i (by omega) (by omega)).2
          unfold unm at this
          rw [hm] at this
          cases this
    · refine ⟨false, by rw [if_neg (by simpa using h1)], ?_⟩
      constructor
      · intro hh
        cases hh
      · intro hh
        exact absurd (hh.1 i (by omega) (by omega)).1 h1
theorem feCells_l0 (R C : Nat) (ms : List Nat) (hR : ms.length = R) (hR6 : R ≤ 6) (hC0 : 1 ≤ C) (hC : C ≤ 6) (hb : ∀ x ∈ ms, x < 64) (l : List Int) (hl : l.length ≤ 1048576) (h6 : R * C ≤ 36) (hin : ∀ j, j < l.length → 0 ≤ l.getD j 0 ∧ l.getD j 0 ≤ ((R * C : Nat) : Int) - 1) : ∀ (d k i : Nat), i + d = l.length → d < k →
    ∃ b, spec_feCells.l0 k l (l.length : Int) (i : Int) (R : Int) (C : Int) (ms.map (fun (x : Nat) => (x : Int))) = some b ∧ (b = true ↔ (∀ j, i ≤ j → j < l.length → unm C ms (l.getD j 0))) := by
  intro d
  induction d with
  | zero =>
    intro k i h hk
    obtain ⟨k, rfl⟩ : ∃ m, k = m + 1 := ⟨k - 1, by omega⟩
    simp only [spec_feCells.l0]
    refine ⟨true, by rw [if_neg (by omega)], ?_⟩
    simp only [true_iff]
    intro j h1 h2
    omega
  | succ d ih =>
    intro k i h hk
    obtain ⟨k, rfl⟩ : ∃ m, k = m + 1 := ⟨k - 1, by omega⟩
    obtain ⟨b, hb1, hb2⟩ := ih k (i + 1) (by omega) (by omega)
    simp only [spec_feCells.l0]
    have e2 : ((i : Int) + 1) = ((i + 1 : Nat) : Int) := by omega
    have h1 := hin i (by omega)
    have hrow := cell_row R C (l.getD i 0) h1.1 h1.2
    have hcol : (l.getD i 0).toNat % C < C := Nat.mod_lt _ (by omega)
    have l1 : ((ms.map (fun (x : Nat) => (x : Int))).length : Int) = (R : Int) := by simp [hR]
    rw [if_pos (by omega), if_pos (by omega), if_pos (by omega), rd_nat, if_neg (by omega), tdiv_nat _ _ h1.1, tmod_nat2 _ _ h1.1, wrap_small _ (Nat.lt_of_lt_of_le hrow (by omega)), wrap_ok (x := (i : Int) + 1) (by omega) (by omega), if_pos (Int.natCast_nonneg _), l1, if_pos (Int.ofNat_lt.2 hrow), rd_map, orHas_k _ _ (by omega), e2, hb1]
    simp only [Option.bind_some]
    have em : (ms.getD ((l.getD i 0).toNat / C) 0).testBit ((l.getD i 0).toNat % C) = mk ms ((l.getD i 0).toNat / C) ((l.getD i 0).toNat % C) := rfl
    rw [em]
    cases hm : mk ms ((l.getD i 0).toNat / C) ((l.getD i 0).toNat % C)
    · refine ⟨b, by rw [if_neg (by simp)], hb2.trans ?_⟩
      constructor
      · intro hh j h3 h4
        by_cases he : j = i
        · subst he
          exact hm
        · exact hh j (by omega) h4
      · intro hh j h3 h4
        exact hh j (by omega) h4
    · refine ⟨false, by rw [if_pos rfl], ?_⟩
      constructor
      · intro hh
        cases hh
      · intro hh
        have := hh i (by omega) (by omega)
        unfold unm at this
        rw [hm] at this
        cases this
theorem inRise_iff (N : Int) (C : Nat) (ms : List Nat) (l : List Int) : Cells N C ms l ↔ InRise l 0 (N - 1) 0 ∧ ∀ j, 0 ≤ j → j < l.length → unm C ms (l.getD j 0) := by
  constructor
  · rintro ⟨h1, h2⟩
    exact ⟨fun j _ h3 => ⟨(h1 j h3).1, fun h4 => h2 j h4 h3⟩, fun j _ h3 => (h1 j h3).2⟩
  · rintro ⟨h1, h2⟩
    exact ⟨fun j h3 => ⟨(h1 j (by omega) h3).1, h2 j (by omega) h3⟩, fun j h4 h3 => (h1 j (by omega) h3).2 h4⟩
theorem cells_k (R C : Nat) (ms : List Nat) (hT : isTab (R : Int) (C : Int) (ms.map (fun (x : Nat) => (x : Int))) = true) (hR : ms.length = R) (hR6 : R ≤ 6) (hC0 : 1 ≤ C) (hC : C ≤ 6) (hb : ∀ x ∈ ms, x < 64) (l : List Int) (hl : l.length ≤ 1048576) (k : Nat) (hk : 2 * l.length + 10 < k) :
    ∃ b, impl_Table_areCells.f k (R : Int) (C : Int) (ms.map (fun (x : Nat) => (x : Int))) l = some b ∧ spec_feCells.f k (R : Int) (C : Int) (ms.map (fun (x : Nat) => (x : Int))) l = some b ∧ (b = true ↔ Cells ((R * C : Nat) : Int) C ms l) := by
  have h6 : R * C ≤ 6 * 6 := Nat.mul_le_mul hR6 hC
  obtain ⟨b, hb1, hb2⟩ := areCells_l0 R C ms hR hR6 hC0 hC hb l hl l.length k 0 (by omega) (by omega)
  have hb3 : b = true ↔ Cells ((R * C : Nat) : Int) C ms l := by
    rw [hb2]
    exact ⟨fun hh => ⟨fun j h => hh.1 j (by omega) h, hh.2⟩, fun hh => ⟨fun j _ h => hh.1 j h, hh.2⟩⟩
  refine ⟨b, hb1, ?_, hb3⟩
  unfold spec_feCells.f
  have lm : (ms.map (fun (x : Nat) => (x : Int))).length ≤ 6 := by simp; omega
  rw [feGood_k _ _ _ (by omega) k (by omega), hT]
  simp only [Option.bind_some, if_true]
  rw [area_eq R C hR6 hC]
  obtain ⟨r, hr1, hr2⟩ := rising_k l 0 (((R * C : Nat) : Int) - 1) (by omega) k (by omega)
  rw [hr1]
  simp only [Option.bind_some]
  obtain ⟨k, rfl⟩ : ∃ m, k = m + 1 := ⟨k - 1, by omega⟩
  rw [inRise_iff, ← hr2] at hb3
  simp only [spec_feCells.j0]
  cases r
  · rw [if_pos (show (!false) = true from rfl)]
    cases b
    · rfl
    · have := (hb3.1 rfl).1
      cases this
  · rw [if_neg (by simp)]
    obtain ⟨c, hc1, hc2⟩ := feCells_l0 R C ms hR hR6 hC0 hC hb l hl (by omega) (fun j hj => ((hr2.1 rfl) j (by omega) hj).1) l.length k 0 (by omega) (by omega)
    rw [show spec_feCells.l0 k l (l.length : Int) 0 (R : Int) (C : Int) (ms.map (fun (x : Nat) => (x : Int))) = some c from hc1]
    rw [← hc2] at hb3
    cases b <;> cases c <;> simp at hb3 <;> rfl
/-- Good cells are numbers. -/
theorem cells_nat (R C : Nat) (ms : List Nat) (l : List Int) (h : Cells ((R * C : Nat) : Int) C ms l) : ∃ cs : List Nat, l = cs.map (fun (x : Nat) => (x : Int)) ∧ ∀ c ∈ cs, c < R * C := by
  refine ⟨l.map Int.toNat, ?_, ?_⟩
  · rw [List.map_map]
    apply List.ext_getElem
    · simp
    · intro j h1 h2
      have := (h.1 j h1).1
      rw [List.getD_eq_getElem?_getD, List.getElem?_eq_getElem h1] at this
      simp at this ⊢
      omega
  · intro c hc
    obtain ⟨y, hy, rfl⟩ := List.mem_map.1 hc
    obtain ⟨j, hj, rfl⟩ := List.getElem_of_mem hy
    have := (h.1 j hj).1
    rw [List.getD_eq_getElem?_getD, List.getElem?_eq_getElem hj] at this
    simp at this
    omega

/-- The rows of the cells before i whose column is marked in a row. -/
def befTo (C : Nat) (ms cs : List Nat) (r : Nat) : Nat → Nat
  | 0 => 0
  | i + 1 => if mk ms r (cs.getD i 0 % C) = true then befTo C ms cs r i ||| 2 ^ (cs.getD i 0 / C) else befTo C ms cs r i
theorem cs_row (R C : Nat) (cs : List Nat) (hcs : ∀ c ∈ cs, c < R * C) (i : Nat) (hi : i < cs.length) : cs.getD i 0 / C < R := by
  apply Nat.div_lt_of_lt_mul
  rw [Nat.mul_comm, List.getD_eq_getElem?_getD, List.getElem?_eq_getElem hi]
  exact hcs _ (List.getElem_mem hi)
theorem befTo_lt (R C : Nat) (ms cs : List Nat) (hcs : ∀ c ∈ cs, c < R * C) (r : Nat) : ∀ i, i ≤ cs.length → befTo C ms cs r i < 2 ^ R := by
  intro i
  induction i with
  | zero => intro _; exact Nat.two_pow_pos _
  | succ i ih =>
    intro hi
    rw [befTo]
    split
    · exact Nat.or_lt_two_pow (ih (by omega)) (Nat.pow_lt_pow_right (by omega) (cs_row R C cs hcs i (by omega)))
    · exact ih (by omega)
theorem befTo_bit (C : Nat) (ms cs : List Nat) (r i s : Nat) : (befTo C ms cs r i).testBit s = true ↔ ∃ j, j < i ∧ cs.getD j 0 / C = s ∧ mk ms r (cs.getD j 0 % C) = true := by
  induction i with
  | zero => simp [befTo]
  | succ i ih =>
    rw [befTo]
    cases hm : mk ms r (cs.getD i 0 % C)
    · rw [if_neg (by simp), ih]
      constructor
      · rintro ⟨j, h1, h2⟩
        exact ⟨j, by omega, h2⟩
      · rintro ⟨j, h1, h2, h3⟩
        by_cases e : j = i
        · subst e
          rw [hm] at h3
          cases h3
        · exact ⟨j, by omega, h2, h3⟩
    · rw [if_pos rfl, Nat.testBit_or, Bool.or_eq_true, ih, Nat.testBit_two_pow, decide_eq_true_eq]
      constructor
      · rintro (⟨j, h1, h2⟩ | h)
        · exact ⟨j, by omega, h2⟩
        · exact ⟨i, by omega, h, hm⟩
      · rintro ⟨j, h1, h2, h3⟩
        by_cases e : j = i
        · subst e
          exact Or.inr h2
        · exact Or.inl ⟨j, by omega, h2, h3⟩
/-- The list that is being filled: the cells before i are done, the next one for the rows before r. -/
def befPart (R C : Nat) (ms cs : List Nat) (i r : Nat) : List Int := (List.range R).map fun q => if q < r then ((befTo C ms cs q (i + 1) : Nat) : Int) else ((befTo C ms cs q i : Nat) : Int)
theorem befPart_length (R C : Nat) (ms cs : List Nat) (i r : Nat) : (befPart R C ms cs i r).length = R := by simp [befPart]
theorem befPart_start (R C : Nat) (ms cs : List Nat) : List.replicate R 0 = befPart R C ms cs 0 0 := by
  apply List.ext_getElem?
  intro r
  by_cases h : r < R
  · simp [befPart, h, List.getElem?_replicate, befTo]
  · rw [List.getElem?_eq_none (by simp; omega), List.getElem?_eq_none (by rw [befPart_length]; omega)]
theorem befPart_next (R C : Nat) (ms cs : List Nat) (i : Nat) : befPart R C ms cs i R = befPart R C ms cs (i + 1) 0 := by
  unfold befPart
  apply List.map_congr_left
  intro q hq
  rw [if_pos (by simpa using hq), if_neg (by omega)]
theorem befPart_rd (R C : Nat) (ms cs : List Nat) (i r : Nat) (hr : r < R) : rd (befPart R C ms cs i r) (r : Int) = ((befTo C ms cs r i : Nat) : Int) := by
  rw [rd_nat]
  simp [befPart, List.getD_eq_getElem?_getD, hr]
theorem befPart_skip (R C : Nat) (ms cs : List Nat) (i r : Nat) (hm : mk ms r (cs.getD i 0 % C) = false) : befPart R C ms cs i r = befPart R C ms cs i (r + 1) := by
  unfold befPart
  apply List.map_congr_left
  intro q _
  by_cases h : q < r
  · rw [if_pos h, if_pos (by omega)]
  · rw [if_neg h]
    by_cases e : q = r
    · subst e
      rw [if_pos (by omega), befTo, hm, if_neg (by simp)]
    · rw [if_neg (by omega)]
theorem befPart_set (R C : Nat) (ms cs : List Nat) (i r : Nat) (hm : mk ms r (cs.getD i 0 % C) = true) : (befPart R C ms cs i r).set r ((befTo C ms cs r i ||| 2 ^ (cs.getD i 0 / C) : Nat) : Int) = befPart R C ms cs i (r + 1) := by
  apply List.ext_getElem?
  intro q
  by_cases h : q < R
  · rw [List.getElem?_set]
    simp only [befPart, List.getElem?_map, List.getElem?_range h, Option.map_some, List.length_map, List.length_range]
    by_cases e : r = q
    · subst e
      rw [if_pos rfl, if_pos h, if_pos (by omega), befTo, if_pos hm]
    · rw [if_neg e]
      by_cases h1 : q < r
      · rw [if_pos h1, if_pos (by omega)]
      · rw [if_neg h1, if_neg (by omega)]
  · rw [List.getElem?_eq_none (by simp [befPart_length]; omega), List.getElem?_eq_none (by rw [befPart_length]; omega)]
theorem freeOrder_l0 (R C : Nat) (ms cs : List Nat) (hR : ms.length = R) (hR6 : R ≤ 6) (hC0 : 1 ≤ C) (hC : C ≤ 6) (hb : ∀ x ∈ ms, x < 64) (hcs : ∀ c ∈ cs, c < R * C) (hl : cs.length ≤ 1048576) (W : List Int) (K : Nat)
    (hW : ∀ k, K ≤ k → impl_Table_freeOrder.l2 k (befPart R C ms cs cs.length 0) [] 0 (R : Int) (C : Int) (ms.map (fun (x : Nat) => (x : Int))) = some W) : ∀ (d k i : Nat), i + d = cs.length → K + d * (R + 2) < k →
    impl_Table_freeOrder.l0 k (befPart R C ms cs i 0) (cs.map (fun (x : Nat) => (x : Int))) (cs.length : Int) (i : Int) (R : Int) (C : Int) (ms.map (fun (x : Nat) => (x : Int))) = some W := by
  intro d
  induction d with
  | zero =>
    intro k i hi hk
    obtain ⟨k, rfl⟩ : ∃ m, k = m + 1 := ⟨k - 1, by omega⟩
    simp only [impl_Table_freeOrder.l0]
    have e : i = cs.length := by omega
    rw [if_neg (by omega), e]
    exact hW k (by omega)
  | succ d ih =>
    intro k i hi hk
    rw [Nat.succ_mul] at hk
    obtain ⟨k, rfl⟩ : ∃ m, k = m + 1 := ⟨k - 1, by omega⟩
    simp only [impl_Table_freeOrder.l0]
    have lc : ((cs.map (fun (x : Nat) => (x : Int))).length : Int) = (cs.length : Int) := by simp
    have hrow := cs_row R C cs hcs i (by omega)
    have hcol : cs.getD i 0 % C < C := Nat.mod_lt _ (by omega)
    rw [if_pos (by omega), if_pos (by omega), if_pos (by omega), rd_map]
    have inner : ∀ (e k r : Nat), r + e = R → K + d * (R + 2) + 1 + e < k → impl_Table_freeOrder.l1 k (befPart R C ms cs i r) ((cs.getD i 0 : Nat) : Int) (cs.map (fun (x : Nat) => (x : Int))) (cs.length : Int) (i : Int) (R : Int) (r : Int) (R : Int) (C : Int) (ms.map (fun (x : Nat) => (x : Int))) = some W := by
      intro e
      induction e with
      | zero =>
        intro k r hr hk
        obtain ⟨k, rfl⟩ : ∃ m, k = m + 1 := ⟨k - 1, by omega⟩
        simp only [impl_Table_freeOrder.l1]
        have e2 : r = R := by omega
        subst e2
        rw [if_neg (by omega), wrap_ok (by omega) (by omega), show ((i : Int) + 1) = ((i + 1 : Nat) : Int) by omega, befPart_next]
        exact ih k (i + 1) (by omega) (by omega)
      | succ e ihe =>
        intro k r hr hk
        obtain ⟨k, rfl⟩ : ∃ m, k = m + 1 := ⟨k - 1, by omega⟩
        simp only [impl_Table_freeOrder.l1]
        have next := ihe k (r + 1) (by omega) (by omega)
        have t1 : Int.tmod ((cs.getD i 0 : Nat) : Int) (C : Int) = ((cs.getD i 0 % C : Nat) : Int) := rfl
        have t2 : Int.tdiv ((cs.getD i 0 : Nat) : Int) (C : Int) = ((cs.getD i 0 / C : Nat) : Int) := rfl
        have b1 := befTo_lt R C ms cs hcs r i (by omega)
        have b2 : 2 ^ R ≤ 2 ^ 6 := Nat.pow_le_pow_right (by omega) hR6
        have e3 : (r : Int).toNat = r := by omega
        rw [if_pos (by omega), if_neg (by omega), t1, marked_k (R : Int) (C : Int) ms r _ hb (by omega) (by omega), t2, wrap_small _ (Nat.lt_of_lt_of_le hrow (by omega)), wrap_ok (x := (r : Int) + 1) (by omega) (by omega), show ((r : Int) + 1) = ((r + 1 : Nat) : Int) by omega, e3]
        simp only [Option.bind_some]
        cases hm : mk ms r (cs.getD i 0 % C)
        · rw [if_neg (by simp), befPart_skip R C ms cs i r hm]
          exact next
        · rw [if_pos rfl, if_pos (by omega), befPart_length, if_pos (by omega), if_pos (Int.natCast_nonneg _), befPart_rd R C ms cs i r (by omega), or_shl _ _ (by omega) (Nat.lt_of_lt_of_le hrow (by omega)), befPart_set R C ms cs i r hm]
          exact next
    exact inner R k 0 (by omega) (by omega)
/-- May a row come next, behind those that have come? -/
def ready (C : Nat) (ms cs out : List Nat) (r : Nat) : Bool := !out.contains r && (List.range' 0 cs.length).all fun j => !mk ms r (cs.getD j 0 % C) || out.contains (cs.getD j 0 / C)
/-- The first row that may come next. -/
def pick (R C : Nat) (ms cs out : List Nat) : Option Nat := (List.range' 0 R).find? (ready C ms cs out)
/-- The rows one after the other. -/
def orderFrom (R C : Nat) (ms cs : List Nat) : Nat → List Nat → Option (List Nat)
  | 0, out => some out
  | d + 1, out => (pick R C ms cs out).bind fun r => orderFrom R C ms cs d (out ++ [r])
theorem orderFrom_length (R C : Nat) (ms cs : List Nat) : ∀ d out l, orderFrom R C ms cs d out = some l → l.length = out.length + d := by
  intro d
  induction d with
  | zero =>
    intro out l h
    simp only [orderFrom, Option.some.injEq] at h
    rw [← h]
    rfl
  | succ d ih =>
    intro out l h
    simp only [orderFrom] at h
    cases hp : pick R C ms cs out with
    | none => simp [hp] at h
    | some r =>
      rw [hp] at h
      have := ih _ l h
      rw [this]
      simp
      omega
theorem pick_lt {R C : Nat} {ms cs out : List Nat} {r : Nat} (h : pick R C ms cs out = some r) : r < R := by
  have := List.mem_of_find?_eq_some h
  rw [List.mem_range'] at this
  obtain ⟨i, hi, e⟩ := this
  omega
theorem orderFrom_lt (R C : Nat) (ms cs : List Nat) : ∀ d out l, (∀ s ∈ out, s < R) → orderFrom R C ms cs d out = some l → ∀ s ∈ l, s < R := by
  intro d
  induction d with
  | zero =>
    intro out l ho h
    simp only [orderFrom, Option.some.injEq] at h
    rw [← h]
    exact ho
  | succ d ih =>
    intro out l ho h
    simp only [orderFrom] at h
    cases hp : pick R C ms cs out with
    | none => simp [hp] at h
    | some r =>
      rw [hp] at h
      refine ih _ l ?_ h
      intro s hs
      rcases List.mem_append.1 hs with h1 | h1
      · exact ho s h1
      · have : s = r := by simpa using h1
        rw [this]
        exact pick_lt hp
theorem ready_iff (C : Nat) (ms cs out : List Nat) (r set : Nat) (hset : ∀ s, set.testBit s = out.contains s) : ready C ms cs out r = true ↔ set.testBit r = false ∧ andn (befTo C ms cs r cs.length) set = 0 := by
  unfold ready
  rw [Bool.and_eq_true, List.all_eq_true, andn_zero, hset r]
  constructor
  · rintro ⟨h1, h2⟩
    refine ⟨by simpa using h1, fun s hs => ?_⟩
    obtain ⟨j, hj, e1, e2⟩ := (befTo_bit C ms cs r cs.length s).1 hs
    have := h2 j (by rw [List.mem_range']; exact ⟨j, hj, by omega⟩)
    rw [e2, e1] at this
    rw [hset]
    simpa using this
  · rintro ⟨h1, h2⟩
    refine ⟨by rw [h1]; rfl, fun j hj => ?_⟩
    rw [List.mem_range'] at hj
    obtain ⟨i, hi, e⟩ := hj
    have ei : j = i := by omega
    subst ei
    cases hm : mk ms r (cs.getD j 0 % C)
    · simp
    · have := h2 (cs.getD j 0 / C) ((befTo_bit C ms cs r cs.length _).2 ⟨j, hi, rfl, hm⟩)
      rw [hset] at this
      rw [this, Bool.or_true]
theorem set_lt {R set : Nat} {out : List Nat} (hset : ∀ s, set.testBit s = out.contains s) (ho : ∀ s ∈ out, s < R) : set < 2 ^ R := by
  apply Nat.lt_pow_two_of_testBit
  intro i hi
  rw [hset]
  cases h : out.contains i
  · rfl
  · have := ho i (by simpa using h)
    omega
theorem set_add {set r : Nat} {out : List Nat} (hset : ∀ s, set.testBit s = out.contains s) : ∀ s, (set ||| 2 ^ r).testBit s = (out ++ [r]).contains s := by
  intro s
  rw [Nat.testBit_or, hset, Nat.testBit_two_pow]
  by_cases h : r = s
  · subst h
    simp
  · have : ¬ s = r := fun e => h e.symm
    simp [h, this]
theorem freeOrder_l3 (R C : Nat) (ms cs : List Nat) (hR6 : R ≤ 6) (hcs : ∀ c ∈ cs, c < R * C) (M : List Int) (out : List Nat) (set : Nat) (hset : ∀ s, set.testBit s = out.contains s) (ho : ∀ s ∈ out, s < R) (hol : out.length ≤ 6) (K : Nat) (W : List Int) : ∀ (d k r : Nat), r + d = R → K + d < k →
    ((List.range' r d).find? (ready C ms cs out) = none → W = []) →
    (∀ q, (List.range' r d).find? (ready C ms cs out) = some q → ∀ k', K ≤ k' → impl_Table_freeOrder.l2 k' (befPart R C ms cs cs.length 0) ((out ++ [q]).map (fun (x : Nat) => (x : Int))) ((set ||| 2 ^ q : Nat) : Int) (R : Int) (C : Int) M = some W) →
    impl_Table_freeOrder.l3 k (befPart R C ms cs cs.length 0) (out.map (fun (x : Nat) => (x : Int))) (set : Int) (r : Int) (R : Int) (C : Int) M = some W := by
  intro d
  have hs := set_lt hset ho
  have b2 : 2 ^ R ≤ 2 ^ 6 := Nat.pow_le_pow_right (by omega) hR6
  induction d with
  | zero =>
    intro k r hr hk h0 _
    obtain ⟨k, rfl⟩ : ∃ m, k = m + 1 := ⟨k - 1, by omega⟩
    simp only [impl_Table_freeOrder.l3]
    rw [if_neg (by omega), if_pos (by omega), h0 (by simp)]
  | succ d ih =>
    intro k r hr hk h0 hc
    obtain ⟨k, rfl⟩ : ∃ m, k = m + 1 := ⟨k - 1, by omega⟩
    simp only [impl_Table_freeOrder.l3]
    rw [List.range'_succ, List.find?_cons] at h0
    have b1 := befTo_lt R C ms cs hcs r cs.length (by omega)
    have hrd : rd (befPart R C ms cs cs.length 0) (r : Int) = ((befTo C ms cs r cs.length : Nat) : Int) := by
      rw [rd_nat]
      simp [befPart, List.getD_eq_getElem?_getD, show r < R by omega]
    have hbit : (Go.bits .and .i64 (shr .i64 (set : Int) (r : Int)) 1 = 1) ↔ set.testBit r = true := by
      rw [← bit_and set r (by omega) (by omega), beq_iff_eq]
    have he : ((r : Int) + 1) = ((r + 1 : Nat) : Int) := by omega
    have rest : ready C ms cs out r = false → impl_Table_freeOrder.l3 k (befPart R C ms cs cs.length 0) (out.map (fun (x : Nat) => (x : Int))) (set : Int) ((r + 1 : Nat) : Int) (R : Int) (C : Int) M = some W := by
      intro hf
      rw [hf] at h0
      refine ih k (r + 1) (by omega) (by omega) h0 fun q hq => hc q ?_
      rw [List.range'_succ, List.find?_cons, hf]
      exact hq
    rw [if_pos (by omega), if_pos (by omega)]
    by_cases hb : set.testBit r = true
    · rw [if_pos (hbit.2 hb), wrap_ok (by omega) (by omega), he]
      apply rest
      cases hy : ready C ms cs out r
      · rfl
      · have := ((ready_iff C ms cs out r set hset).1 hy).1
        rw [hb] at this
        cases this
    · rw [if_neg (fun h => hb (hbit.1 h)), befPart_length, if_pos (by omega), hrd, andNot_nat _ _ (by omega) (by omega), wrap_ok (by omega) (by omega), he]
      by_cases ha : andn (befTo C ms cs r cs.length) set = 0
      · have hy : ready C ms cs out r = true := (ready_iff C ms cs out r set hset).2 ⟨by simpa using hb, ha⟩
        rw [if_pos (by omega), if_neg (by omega), if_pos (by simp; omega), or_shl set r (by omega) (by omega)]
        have := hc r (by rw [List.range'_succ, List.find?_cons, hy]) k (by omega)
        simpa using this
      · rw [if_neg (by omega)]
        apply rest
        cases hy : ready C ms cs out r
        · rfl
        · exact absurd ((ready_iff C ms cs out r set hset).1 hy).2 ha
theorem freeOrder_l2 (R C : Nat) (ms cs : List Nat) (hR0 : 1 ≤ R) (hR6 : R ≤ 6) (hcs : ∀ c ∈ cs, c < R * C) (M : List Int) : ∀ (d k : Nat) (out : List Nat) (set : Nat), out.length + d = R → (∀ s, set.testBit s = out.contains s) → (∀ s ∈ out, s < R) → d * (R + 3) < k →
    impl_Table_freeOrder.l2 k (befPart R C ms cs cs.length 0) (out.map (fun (x : Nat) => (x : Int))) (set : Int) (R : Int) (C : Int) M = some (((orderFrom R C ms cs d out).getD []).map (fun (x : Nat) => (x : Int))) := by
  intro d
  induction d with
  | zero =>
    intro k out set hd hset ho hk
    obtain ⟨k, rfl⟩ : ∃ m, k = m + 1 := ⟨k - 1, by omega⟩
    simp only [impl_Table_freeOrder.l2, orderFrom]
    have hne : ¬ (out.map (fun (x : Nat) => (x : Int))) = [] := by
      intro h
      have := congrArg List.length h
      simp at this
      rw [this] at hd
      simp at hd
      omega
    rw [if_neg (by simp; omega), if_neg hne]
    rfl
  | succ d ih =>
    intro k out set hd hset ho hk
    rw [Nat.succ_mul] at hk
    obtain ⟨k, rfl⟩ : ∃ m, k = m + 1 := ⟨k - 1, by omega⟩
    simp only [impl_Table_freeOrder.l2]
    rw [if_pos (by simp; omega)]
    refine freeOrder_l3 R C ms cs hR6 hcs M out set hset ho (by omega) (d * (R + 3) + 1) _ R k 0 (by omega) (by omega) ?_ ?_
    · intro h
      have hp : pick R C ms cs out = none := h
      simp only [orderFrom, hp]
      rfl
    · intro q hq k' hk'
      have hp : pick R C ms cs out = some q := hq
      simp only [orderFrom, hp, Option.bind_some]
      refine ih k' (out ++ [q]) _ (by simp; omega) (set_add hset) ?_ (by omega)
      intro s hs
      rcases List.mem_append.1 hs with h1 | h1
      · exact ho s h1
      · have : s = q := by simpa using h1
        rw [this]
        exact pick_lt hp
theorem freeOrder_k (R C : Nat) (ms cs : List Nat) (hR : ms.length = R) (hR0 : 1 ≤ R) (hR6 : R ≤ 6) (hC0 : 1 ≤ C) (hC : C ≤ 6) (hb : ∀ x ∈ ms, x < 64) (hcs : ∀ c ∈ cs, c < R * C) (hl : cs.length ≤ 1048576) (k : Nat) (hk : 8 * cs.length + 60 < k) :
    impl_Table_freeOrder.f k (R : Int) (C : Int) (ms.map (fun (x : Nat) => (x : Int))) (cs.map (fun (x : Nat) => (x : Int))) = some (((orderFrom R C ms cs R []).getD []).map (fun (x : Nat) => (x : Int))) := by
  unfold impl_Table_freeOrder.f
  have e : ((R : Int)).toNat = R := by omega
  have lc : ((cs.map (fun (x : Nat) => (x : Int))).length : Int) = (cs.length : Int) := by simp
  have h1 : cs.length * (R + 2) ≤ cs.length * 8 := Nat.mul_le_mul_left _ (by omega)
  have h2 : R * (R + 3) ≤ 6 * 9 := Nat.mul_le_mul hR6 (by omega)
  rw [if_pos (by omega), if_pos (by omega), e, befPart_start R C ms cs, lc]
  refine freeOrder_l0 R C ms cs hR hR6 hC0 hC hb hcs hl _ 55 (fun k hk => ?_) cs.length k 0 (by omega) (by omega)
  exact freeOrder_l2 R C ms cs hR0 hR6 hcs _ R k [] 0 (by simp) (by simp) (by simp) (by omega)
/-! The reference's. -/
theorem l1Has_l0 (l : List Nat) (s : Nat) (hl : l.length ≤ 1048576) : ∀ (d k i : Nat), i + d = l.length → d < k → spec_l1Has.l0 k (s : Int) (l.map (fun (x : Nat) => (x : Int))) (l.length : Int) (i : Int) = some ((l.drop i).contains s) := by
  intro d
  induction d with
  | zero =>
    intro k i hi hk
    obtain ⟨k, rfl⟩ : ∃ m, k = m + 1 := ⟨k - 1, by omega⟩
    simp only [spec_l1Has.l0]
    rw [if_neg (by omega), List.drop_eq_nil_of_le (by omega)]
    rfl
  | succ d ih =>
    intro k i hi hk
    obtain ⟨k, rfl⟩ : ∃ m, k = m + 1 := ⟨k - 1, by omega⟩
    simp only [spec_l1Has.l0]
    have lc : ((l.map (fun (x : Nat) => (x : Int))).length : Int) = (l.length : Int) := by simp
    have ed : l.drop i = l.getD i 0 :: l.drop (i + 1) := by
      rw [List.drop_eq_getElem_cons (by omega)]
      simp [show i < l.length by omega]
    rw [if_pos (by omega), if_pos (by omega), if_pos (by omega), rd_map, wrap_ok (by omega) (by omega), show ((i : Int) + 1) = ((i + 1 : Nat) : Int) by omega, ih k (i + 1) (by omega) (by omega), ed, List.contains_cons]
    by_cases h : l.getD i 0 = s
    · rw [if_pos (by omega), h]
      simp
    · rw [if_neg (by omega)]
      have h2 : (s == l.getD i 0) = false := by
        rw [beq_eq_false_iff_ne]
        exact fun e => h e.symm
      rw [h2, Bool.false_or]
theorem l1Has_k (l : List Nat) (s : Nat) (hl : l.length ≤ 1048576) (k : Nat) (hk : l.length < k) : spec_l1Has.f k (l.map (fun (x : Nat) => (x : Int))) (s : Int) = some (l.contains s) := by
  unfold spec_l1Has.f
  have := l1Has_l0 l s hl l.length k 0 (by omega) hk
  have lc : ((l.map (fun (x : Nat) => (x : Int))).length : Int) = (l.length : Int) := by simp
  rw [lc]
  exact this
/-- Does a cell let a row come next? -/
def lets (C : Nat) (ms cs out : List Nat) (r j : Nat) : Bool := !mk ms r (cs.getD j 0 % C) || out.contains (cs.getD j 0 / C)
/-- The row that is next, as the program's number. -/
def enc : Option Nat → Int
  | none => -1
  | some r => (r : Int)
theorem feOrder_l2 (R C : Nat) (ms cs : List Nat) (hR : ms.length = R) (hR6 : R ≤ 6) (hC0 : 1 ≤ C) (hC : C ≤ 6) (hb : ∀ x ∈ ms, x < 64) (hcs : ∀ c ∈ cs, c < R * C) (hl : cs.length ≤ 1048576) (out : List Nat) (hol : out.length ≤ 6) (K : Nat) (W : List Int × Bool) (nx : Int) (r : Nat) (hr : r < R) : ∀ (d k j : Nat) (g : Bool), j + d = cs.length → K + d + 7 < k →
    (∀ k', K ≤ k' → spec_feOrder.l1 k' (cs.map (fun (x : Nat) => (x : Int))) (out.map (fun (x : Nat) => (x : Int))) (if (g && (List.range' j d).all (lets C ms cs out r)) = true then (r : Int) else nx) ((r : Int) - 1) (R : Int) (C : Int) (ms.map (fun (x : Nat) => (x : Int))) = some W) →
    spec_feOrder.l2 k (cs.map (fun (x : Nat) => (x : Int))) (out.map (fun (x : Nat) => (x : Int))) nx (r : Int) g (cs.map (fun (x : Nat) => (x : Int))) (cs.length : Int) (j : Int) (R : Int) (C : Int) (ms.map (fun (x : Nat) => (x : Int))) = some W := by
  intro d
  induction d with
  | zero =>
    intro k j g hj hk hW
    obtain ⟨k, rfl⟩ : ∃ m, k = m + 1 := ⟨k - 1, by omega⟩
    simp only [spec_feOrder.l2]
    have := hW k (by omega)
    simp only [List.range'_zero, List.all_nil, Bool.and_true] at this
    rw [if_neg (by omega), wrap_ok (by omega) (by omega)]
    cases g
    · rw [if_neg (by simp)]
      simpa using this
    · rw [if_pos rfl]
      simpa using this
  | succ d ih =>
    intro k j g hj hk hW
    obtain ⟨k, rfl⟩ : ∃ m, k = m + 1 := ⟨k - 1, by omega⟩
    simp only [spec_feOrder.l2]
    rw [List.range'_succ, List.all_cons, ← Bool.and_assoc] at hW
    have next := ih k (j + 1) (g && lets C ms cs out r j) (by omega) (by omega) hW
    have lc : ((cs.map (fun (x : Nat) => (x : Int))).length : Int) = (cs.length : Int) := by simp
    have lm : ((ms.map (fun (x : Nat) => (x : Int))).length : Int) = (R : Int) := by simp [hR]
    have hrow := cs_row R C cs hcs j (by omega)
    have hcol : cs.getD j 0 % C < C := Nat.mod_lt _ (by omega)
    have t1 : Int.tmod ((cs.getD j 0 : Nat) : Int) (C : Int) = ((cs.getD j 0 % C : Nat) : Int) := rfl
    have t2 : Int.tdiv ((cs.getD j 0 : Nat) : Int) (C : Int) = ((cs.getD j 0 / C : Nat) : Int) := rfl
    have em : (ms.getD r 0).testBit (cs.getD j 0 % C) = mk ms r (cs.getD j 0 % C) := rfl
    rw [if_pos (by omega), if_pos (by omega), if_pos (by omega), rd_map, t1, t2, if_neg (by omega), wrap_small _ (Nat.lt_of_lt_of_le hrow (by omega)), l1Has_k out _ (by omega) k (by omega), wrap_ok (x := (j : Int) + 1) (by omega) (by omega), show ((j : Int) + 1) = ((j + 1 : Nat) : Int) by omega, if_pos (by omega), if_pos (by omega), rd_map, orHas_k _ _ (by omega), em]
    simp only [Option.bind_some]
    unfold lets at next
    cases h1 : out.contains (cs.getD j 0 / C)
    · rw [if_neg (by simp)]
      rw [h1, Bool.or_false] at next
      cases h2 : mk ms r (cs.getD j 0 % C)
      · rw [if_neg (by simp)]
        rw [h2] at next
        simpa using next
      · rw [if_pos rfl]
        rw [h2] at next
        simpa using next
    · rw [if_pos rfl]
      rw [h1, Bool.or_true, Bool.and_true] at next
      exact next
theorem ready_eq (C : Nat) (ms cs out : List Nat) (r : Nat) : ready C ms cs out r = (!out.contains r && (List.range' 0 cs.length).all (lets C ms cs out r)) := rfl
theorem feOrder_l1 (R C : Nat) (ms cs : List Nat) (hR : ms.length = R) (hR6 : R ≤ 6) (hC0 : 1 ≤ C) (hC : C ≤ 6) (hb : ∀ x ∈ ms, x < 64) (hcs : ∀ c ∈ cs, c < R * C) (hl : cs.length ≤ 1048576) (out : List Nat) (hol : out.length ≤ 6) (K : Nat) (W : List Int × Bool)
    (h0 : pick R C ms cs out = none → W = ([], false)) (h1 : ∀ q, pick R C ms cs out = some q → ∀ k', K ≤ k' → spec_feOrder.l0 k' (cs.map (fun (x : Nat) => (x : Int))) ((out ++ [q]).map (fun (x : Nat) => (x : Int))) (R : Int) (C : Int) (ms.map (fun (x : Nat) => (x : Int))) = some W) : ∀ (j k : Nat), j ≤ R → K + j * (cs.length + 12) + 1 < k →
    spec_feOrder.l1 k (cs.map (fun (x : Nat) => (x : Int))) (out.map (fun (x : Nat) => (x : Int))) (enc ((List.range' j (R - j)).find? (ready C ms cs out))) ((j : Int) - 1) (R : Int) (C : Int) (ms.map (fun (x : Nat) => (x : Int))) = some W := by
  intro j
  induction j with
  | zero =>
    intro k hj hk
    obtain ⟨k, rfl⟩ : ∃ m, k = m + 1 := ⟨k - 1, by omega⟩
    simp only [spec_feOrder.l1]
    have e : (List.range' 0 (R - 0)).find? (ready C ms cs out) = pick R C ms cs out := rfl
    rw [if_neg (by omega), e]
    cases hp : pick R C ms cs out with
    | none =>
      rw [if_pos (by simp [enc]), h0 hp]
    | some q =>
      have := h1 q hp k (by omega)
      rw [if_neg (by simp only [enc]; omega), if_pos (by simp; omega)]
      simpa [enc] using this
  | succ j ih =>
    intro k hj hk
    rw [Nat.succ_mul] at hk
    obtain ⟨k, rfl⟩ : ∃ m, k = m + 1 := ⟨k - 1, by omega⟩
    simp only [spec_feOrder.l1]
    have ej : (((j + 1 : Nat) : Int) - 1) = (j : Int) := by omega
    have er : R - j = (R - (j + 1)) + 1 := by omega
    have goal := fun (k : Nat) (hk : K + j * (cs.length + 12) + 1 < k) => ih k (by omega) hk
    rw [er, List.range'_succ, List.find?_cons] at goal
    rw [ej, if_pos (by omega), l1Has_k out _ (by omega) k (by omega), wrap_ok (by omega) (by omega)]
    simp only [Option.bind_some]
    cases hc : out.contains j
    · rw [if_neg (by simp)]
      have lc : ((cs.map (fun (x : Nat) => (x : Int))).length : Int) = (cs.length : Int) := by simp
      rw [lc]
      refine feOrder_l2 R C ms cs hR hR6 hC0 hC hb hcs hl out hol (K + j * (cs.length + 12) + 2) W _ j (by omega) cs.length k 0 true (by omega) (by omega) ?_
      intro k' hk'
      have g := goal k' (by omega)
      rw [ready_eq, hc] at g
      cases ha : (List.range' 0 cs.length).all (lets C ms cs out j)
      · rw [ha] at g
        simpa using g
      · rw [ha] at g
        simpa [enc] using g
    · rw [if_pos rfl]
      have g := goal k (by omega)
      rw [ready_eq, hc] at g
      simpa using g
theorem feOrder_l0 (R C : Nat) (ms cs : List Nat) (hR : ms.length = R) (hR6 : R ≤ 6) (hC0 : 1 ≤ C) (hC : C ≤ 6) (hb : ∀ x ∈ ms, x < 64) (hcs : ∀ c ∈ cs, c < R * C) (hl : cs.length ≤ 1048576) : ∀ (d k : Nat) (out : List Nat), out.length + d = R → d * (6 * (cs.length + 12) + 4) < k →
    spec_feOrder.l0 k (cs.map (fun (x : Nat) => (x : Int))) (out.map (fun (x : Nat) => (x : Int))) (R : Int) (C : Int) (ms.map (fun (x : Nat) => (x : Int))) = some (match orderFrom R C ms cs d out with | none => ([], false) | some l => (l.map (fun (x : Nat) => (x : Int)), true)) := by
  intro d
  induction d with
  | zero =>
    intro k out hd hk
    obtain ⟨k, rfl⟩ : ∃ m, k = m + 1 := ⟨k - 1, by omega⟩
    simp only [spec_feOrder.l0, orderFrom]
    rw [if_neg (by simp; omega)]
  | succ d ih =>
    intro k out hd hk
    rw [Nat.succ_mul] at hk
    obtain ⟨k, rfl⟩ : ∃ m, k = m + 1 := ⟨k - 1, by omega⟩
    simp only [spec_feOrder.l0]
    have hm : R * (cs.length + 12) ≤ 6 * (cs.length + 12) := Nat.mul_le_mul_right _ hR6
    rw [if_pos (by simp; omega), wrap_ok (by omega) (by omega)]
    have L := feOrder_l1 R C ms cs hR hR6 hC0 hC hb hcs hl out (by omega) (d * (6 * (cs.length + 12) + 4) + 1) (match orderFrom R C ms cs (d + 1) out with | none => ([], false) | some l => (l.map (fun (x : Nat) => (x : Int)), true))
      (fun hp => by simp [orderFrom, hp])
      (fun q hp k' hk' => by
        simp only [orderFrom, hp, Option.bind_some]
        exact ih k' (out ++ [q]) (by simp; omega) (by omega)) R k (by omega) (by omega)
    have e : R - R = 0 := by omega
    rw [e] at L
    exact L
theorem feOrder_k (R C : Nat) (ms cs : List Nat) (hR : ms.length = R) (hR6 : R ≤ 6) (hC0 : 1 ≤ C) (hC : C ≤ 6) (hb : ∀ x ∈ ms, x < 64) (hcs : ∀ c ∈ cs, c < R * C) (hl : cs.length ≤ 1048576) (k : Nat) (hk : 36 * cs.length + 600 < k) :
    spec_feOrder.f k (R : Int) (C : Int) (ms.map (fun (x : Nat) => (x : Int))) (cs.map (fun (x : Nat) => (x : Int))) = some (match orderFrom R C ms cs R [] with | none => ([], false) | some l => (l.map (fun (x : Nat) => (x : Int)), true)) := by
  unfold spec_feOrder.f
  have hm : R * (6 * (cs.length + 12) + 4) ≤ 6 * (6 * (cs.length + 12) + 4) := Nat.mul_le_mul_right _ hR6
  exact feOrder_l0 R C ms cs hR hR6 hC0 hC hb hcs hl R k [] (by simp) (by omega)

/-- What both tell of a table and of cells: none, or the order of the rows. -/
theorem freeOrder_both (R C : Int) (M l : List Int) (hM : M.length ≤ 1048576) (hl : l.length ≤ 1048576) :
    ∃ y z, y.length ≤ 6 ∧ (∀ k, M.length + 36 * l.length + 700 < k → impl_FreeOrder.f k R C M l = some (y, z)) ∧ (∀ k, M.length + 36 * l.length + 700 < k → spec_FreeOrder.f k R C M l = some (y, z)) ∧
      (z = true → ∃ (r c : Nat) (ms cs o : List Nat), R = (r : Int) ∧ C = (c : Int) ∧ M = ms.map (fun (x : Nat) => (x : Int)) ∧ 1 ≤ r ∧ r ≤ 6 ∧ 1 ≤ c ∧ c ≤ 6 ∧ ms.length = r ∧ (∀ x ∈ ms, x < 2 ^ c) ∧ y = o.map (fun (x : Nat) => (x : Int)) ∧ o.length = r ∧ ∀ s ∈ o, s < r) := by
  cases hT : isTab R C M
  · refine ⟨[], false, by simp, fun k hk => ?_, fun k hk => ?_, by simp⟩
    · unfold impl_FreeOrder.f
      rw [IsTable_k R C M (by omega) k (by omega), hT]
      rfl
    · unfold spec_FreeOrder.f spec_feCells.f
      obtain ⟨k, rfl⟩ : ∃ m, k = m + 1 := ⟨k - 1, by omega⟩
      rw [feGood_k R C M (by omega) (k + 1) (by omega), hT]
      rfl
  · obtain ⟨r, c, ms, rfl, rfl, rfl, h1, h2, h3, h4, h5, h6⟩ := (isTab_iff R C M).1 hT
    have h64 : ∀ x ∈ ms, x < 64 := fun x hx => Nat.lt_of_lt_of_le (h6 x hx) (Nat.pow_le_pow_right (n := 2) (by omega) h4)
    by_cases hc : Cells ((r * c : Nat) : Int) c ms l
    · obtain ⟨cs, rfl, hcs⟩ := cells_nat r c ms l hc
      have lc : (cs.map (fun (x : Nat) => (x : Int))).length = cs.length := by simp
      refine ⟨((orderFrom r c ms cs r []).getD []).map (fun (x : Nat) => (x : Int)), (orderFrom r c ms cs r []).isSome, ?_, fun k hk => ?_, fun k hk => ?_, ?_⟩
      · cases h0 : orderFrom r c ms cs r [] with
        | none => simp
        | some o =>
          have := orderFrom_length r c ms cs r [] o h0
          simp
          simp at this
          omega
      · unfold impl_FreeOrder.f
        rw [IsTable_k _ _ _ (by omega) k (by omega), hT]
        simp only [Option.bind_some, if_true]
        obtain ⟨b, hb1, _, hb3⟩ := cells_k r c ms hT h5 h2 h3 h4 h64 _ hl k (by omega)
        rw [hb1, hb3.2 hc, freeOrder_k r c ms cs h5 h1 h2 h3 h4 h64 hcs (by omega) k (by omega)]
        simp only [Option.bind_some, if_true]
        cases h0 : orderFrom r c ms cs r [] with
        | none => simp
        | some o =>
          have := orderFrom_length r c ms cs r [] o h0
          have hne : ¬ (o.map (fun (x : Nat) => (x : Int))) = [] := by
            intro h
            have := congrArg List.length h
            simp at this
            rw [this] at h0
            simp_all
            omega
          rw [Option.getD_some, if_neg hne]
          rfl
      · unfold spec_FreeOrder.f
        obtain ⟨b, _, hb2, hb3⟩ := cells_k r c ms hT h5 h2 h3 h4 h64 _ hl k (by omega)
        rw [hb2, hb3.2 hc]
        simp only [Option.bind_some, if_true]
        rw [feOrder_k r c ms cs h5 h2 h3 h4 h64 hcs (by omega) k (by omega)]
        cases h0 : orderFrom r c ms cs r [] <;> rfl
      · intro hz
        cases h0 : orderFrom r c ms cs r [] with
        | none => simp [h0] at hz
        | some o =>
          refine ⟨r, c, ms, cs, o, rfl, rfl, rfl, h1, h2, h3, h4, h5, h6, rfl, ?_, orderFrom_lt r c ms cs r [] o (by simp) h0⟩
          have := orderFrom_length r c ms cs r [] o h0
          simpa using this
    · refine ⟨[], false, by simp, fun k hk => ?_, fun k hk => ?_, by simp⟩
      · unfold impl_FreeOrder.f
        rw [IsTable_k _ _ _ (by omega) k (by omega), hT]
        simp only [Option.bind_some, if_true]
        obtain ⟨b, hb1, _, hb3⟩ := cells_k r c ms hT h5 h2 h3 h4 h64 _ hl k (by omega)
        have : b = false := by
          cases b
          · rfl
          · exact absurd (hb3.1 rfl) hc
        rw [hb1, this]
        rfl
      · unfold spec_FreeOrder.f
        obtain ⟨b, _, hb2, hb3⟩ := cells_k r c ms hT h5 h2 h3 h4 h64 _ hl k (by omega)
        have : b = false := by
          cases b
          · rfl
          · exact absurd (hb3.1 rfl) hc
        rw [hb2, this]
        rfl

/-- The marks so far and the rows so far, for the rows of an order before i. -/
def cov (R : Nat) (ms o : List Nat) : Nat → Nat × List Int
  | 0 => (0, List.replicate R 0)
  | i + 1 => ((cov R ms o i).1 ||| ms.getD (o.getD i 0) 0, (cov R ms o i).2.set (o.getD i 0) (((cov R ms o i).1 ||| ms.getD (o.getD i 0) 0 : Nat) : Int))
theorem cov_length (R : Nat) (ms o : List Nat) (i : Nat) : (cov R ms o i).2.length = R := by
  induction i with
  | zero => simp [cov]
  | succ i ih => simp [cov, ih]
theorem cov_lt (R c : Nat) (ms o : List Nat) (hb : ∀ x ∈ ms, x < 2 ^ c) (i : Nat) : (cov R ms o i).1 < 2 ^ c := by
  induction i with
  | zero => exact Nat.two_pow_pos _
  | succ i ih => exact Nat.or_lt_two_pow ih (getD_lt (Nat.two_pow_pos _) hb _)
theorem cover_l0 (R C : Nat) (ms o : List Nat) (hR : ms.length = R) (hC : C ≤ 6) (hb : ∀ x ∈ ms, x < 2 ^ C) (ho : ∀ s ∈ o, s < R) (hl : o.length ≤ 6) : ∀ (d k i : Nat), i + d = o.length → d < k →
    impl_Table_cover.l0 k ((cov R ms o i).1 : Int) (o.map (fun (x : Nat) => (x : Int))) (o.length : Int) (i : Int) (R : Int) (C : Int) (ms.map (fun (x : Nat) => (x : Int))) (R : Int) (C : Int) (cov R ms o i).2 = some ((R : Int), (C : Int), (cov R ms o o.length).2) ∧
    spec_feCover.l0 k ((cov R ms o i).1 : Int) (o.map (fun (x : Nat) => (x : Int))) (o.length : Int) (i : Int) (R : Int) (C : Int) (ms.map (fun (x : Nat) => (x : Int))) (R : Int) (C : Int) (cov R ms o i).2 = some ((R : Int), (C : Int), (cov R ms o o.length).2) := by
  intro d
  induction d with
  | zero =>
    intro k i hi hk
    obtain ⟨k, rfl⟩ : ∃ m, k = m + 1 := ⟨k - 1, by omega⟩
    simp only [impl_Table_cover.l0, spec_feCover.l0]
    have e : i = o.length := by omega
    rw [if_neg (by omega), if_neg (by omega), e]
    exact ⟨rfl, rfl⟩
  | succ d ih =>
    intro k i hi hk
    obtain ⟨k, rfl⟩ : ∃ m, k = m + 1 := ⟨k - 1, by omega⟩
    simp only [impl_Table_cover.l0, spec_feCover.l0]
    have lo : ((o.map (fun (x : Nat) => (x : Int))).length : Int) = (o.length : Int) := by simp
    have lm : ((ms.map (fun (x : Nat) => (x : Int))).length : Int) = (R : Int) := by simp [hR]
    have lv := cov_length R ms o i
    have h2 : 2 ^ C ≤ 2 ^ 6 := Nat.pow_le_pow_right (by omega) hC
    have a1 := cov_lt R C ms o hb i
    have a2 := getD_lt (Nat.two_pow_pos C) hb (o.getD i 0)
    have ho2 : o.getD i 0 < R := by
      rw [List.getD_eq_getElem?_getD, List.getElem?_eq_getElem (by omega)]
      exact ho _ (List.getElem_mem _)
    have e3 : ((o.getD i 0 : Nat) : Int).toNat = o.getD i 0 := by omega
    have next := ih k (i + 1) (by omega) (by omega)
    rw [rd_map, rd_map, or_nat _ _ (by omega) (by omega), wrap_ok (by omega) (by omega), show ((i : Int) + 1) = ((i + 1 : Nat) : Int) by omega, e3, if_pos (by omega), if_pos (by omega), if_pos (by omega), if_pos (by omega), if_pos (by omega), if_pos (by omega), if_pos (by omega), if_pos (by omega), if_pos (by omega), if_pos (by omega), if_pos (by omega), if_pos (by omega)]
    exact next
theorem cover_k (R C : Nat) (ms o : List Nat) (hR : ms.length = R) (hR6 : R ≤ 6) (hC : C ≤ 6) (hb : ∀ x ∈ ms, x < 2 ^ C) (ho : ∀ s ∈ o, s < R) (hl : o.length ≤ 6) (k : Nat) (hk : 6 < k) :
    impl_Table_cover.f k (R : Int) (C : Int) (ms.map (fun (x : Nat) => (x : Int))) (o.map (fun (x : Nat) => (x : Int))) = some ((R : Int), (C : Int), (cov R ms o o.length).2) ∧
    spec_feCover.f k (R : Int) (C : Int) (ms.map (fun (x : Nat) => (x : Int))) (o.map (fun (x : Nat) => (x : Int))) = some ((R : Int), (C : Int), (cov R ms o o.length).2) := by
  unfold impl_Table_cover.f spec_feCover.f
  have e : ((R : Int)).toNat = R := by omega
  have lo : ((o.map (fun (x : Nat) => (x : Int))).length : Int) = (o.length : Int) := by simp
  rw [if_pos (by omega), if_pos (by omega), if_pos (by omega), if_pos (by omega), e, lo]
  exact cover_l0 R C ms o hR hC hb ho hl o.length k 0 (by omega) (by omega)

theorem FnExactCoverOf : laws_FnExactCoverOf.Pure := by
  intro R C M l _ _ hm _ hml _ _
  by_cases hl : l.length ≤ 1048576
  · by_cases h : M.length ≤ 1048576
    · refine ⟨M.length + 37 * l.length + 900, ?_⟩
      have H : ∃ a b y z, y.length ≤ 6 ∧ (∀ k, M.length + 36 * l.length + 700 < k → impl_CoverOf.f k R C M l = some (a, b, y, z)) ∧ (∀ k, M.length + 36 * l.length + 700 < k → spec_CoverOf.f k R C M l = some (a, b, y, z)) := by
        obtain ⟨y, z, hy, hI, hS, hz⟩ := freeOrder_both R C M l h hl
        cases z
        · refine ⟨0, 0, [], false, by simp, fun k hk => ?_, fun k hk => ?_⟩
          · unfold impl_CoverOf.f
            rw [hI k hk]
            rfl
          · unfold spec_CoverOf.f
            rw [hS k hk]
            rfl
        · obtain ⟨r, c, ms, cs, o, rfl, rfl, rfl, h1, h2, h3, h4, h5, h6, rfl, h7, h8⟩ := hz rfl
          have A := fun (k : Nat) (hk : 6 < k) => cover_k r c ms o h5 h2 h4 h6 h8 (by omega) k hk
          refine ⟨(r : Int), (c : Int), (cov r ms o o.length).2, true, by rw [cov_length]; omega, fun k hk => ?_, fun k hk => ?_⟩
          · unfold impl_CoverOf.f
            rw [hI k hk]
            simp only [Option.bind_some, if_true]
            rw [(A k (by omega)).1]
            rfl
          · unfold spec_CoverOf.f
            rw [hS k hk]
            simp only [Option.bind_some, if_true]
            rw [(A k (by omega)).2]
            rfl
      obtain ⟨a, b, y, z, hy, hI, hS⟩ := H
      unfold laws_FnExactCoverOf.f
      rw [if_neg (by omega), szTable_eq R C M hm, if_pos h]
      simp only [Option.bind_some]
      rw [if_neg (by omega)]
      repeat (first
        | (rw [toTable_k R C M h _ (by omega)]; simp only [Option.bind_some])
        | (rw [toIntS_k l hl _ (by omega)]; simp only [Option.bind_some])
        | (rw [hS _ (by omega)]; simp only [Option.bind_some])
        | (rw [hI _ (by omega)]; simp only [Option.bind_some])
        | (rw [eqTable_k _ _ _ (by omega) _ (by omega)]; simp only [Option.bind_some])
        | (rw [markTable_k _ _ _ (by omega) _ (by omega)]; simp only [Option.bind_some])
        | (rw [heldTable_k _ _ _ (by omega) _ (by omega)]; simp only [Option.bind_some])
        | (rw [eqIntS_k _ (by omega) _ (by omega)]; simp only [Option.bind_some])
        | (rw [markIntS_k l _ (by omega) (by omega) _ (by omega)]; simp only [Option.bind_some])
        | (simp only [if_true, Bool.false_eq_true, if_false, bne_self_eq_false, if_neg (one_add_nonneg _), if_pos rfl]; done)
        | (rw [if_neg (one_add_nonneg _)])
        | (rw [laws_FnExactCoverOf.j0]; simp only [Bool.false_eq_true, if_false, if_true])
        | (rw [laws_FnExactCoverOf.j1]; simp only [Bool.false_eq_true, if_false, if_true])
        | (rw [laws_FnExactCoverOf.j2]; simp only [Bool.false_eq_true, if_false, if_true])
        | (simp only [if_true, Bool.false_eq_true, if_false, bne_self_eq_false])
        | (rw [if_neg (by omega)]))
    · refine ⟨1, ?_⟩
      unfold laws_FnExactCoverOf.f
      rw [if_neg (by omega), szTable_eq R C M hm, if_neg h]
      simp
  · refine ⟨1, ?_⟩
    unfold laws_FnExactCoverOf.f
    rw [if_pos (by omega)]

end Go.Proofs.Ytcjofpajmhddkaa.Pure
