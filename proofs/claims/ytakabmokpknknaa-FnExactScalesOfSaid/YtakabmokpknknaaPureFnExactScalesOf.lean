/- ScalesOf: the program returns for every triple of rows, columns and marks the scales that the reference returns; no condition. -/
import Derived.Test.YtakabmokpknknaaPFnExactScalesOfx7
import Derived.Lib.SlicesCompact
namespace Go.Proofs.Ytakabmokpknknaa.Pure
open Go.RowKit Go.Proofs.Ytakabmokpknknaa.PFnExactScalesOf Go.Proofs.YtakabmokpknknaaW.PrintWords Go.Proofs.YtakabmokpknknaaW.PrintLast Go.Proofs.YtakabmokpknknaaW.PrintMore
set_option linter.unusedVariables false
set_option linter.unusedSimpArgs false

theorem wrap_ok {x : Int} (h0 : -9223372036854775808 ≤ x) (h1 : x < 9223372036854775808) : wrap64 x = x := by unfold wrap64; omega
theorem wf_bounds {x : Int} (h : (Lit.int .i64 x).wf = true) : -9223372036854775808 ≤ x ∧ x < 9223372036854775808 := by
  have e : IntKind.i64.min ≤ x ∧ x ≤ 9223372036854775807 := by simpa [Lit.wf] using h
  have m : IntKind.i64.min = -9223372036854775808 := by decide
  omega
theorem rd_nat (l : List Int) (i : Nat) : rd l (i : Int) = l.getD i 0 := by simp [rd]

theorem toIntS_l0 (l : List Int) (hl : l.length ≤ 4611686018427387904) : ∀ (d k i : Nat) (x : List Int), i + d = l.length → d < k → x.length = l.length → (∀ j, j < i → x[j]? = l[j]?) → laws_toIntS.l0 k l x (i : Int) = some l := by
  intro d
  induction d with
  | zero =>
    intro k i x h hk hx hj
    obtain ⟨k, rfl⟩ : ∃ m, k = m + 1 := ⟨k - 1, by omega⟩
    simp only [laws_toIntS.l0]
    rw [if_neg (by omega)]
    congr 1
    apply List.ext_getElem?
    intro j
    by_cases hji : j < i
    · exact hj j hji
    · rw [List.getElem?_eq_none (by omega), List.getElem?_eq_none (by omega)]
  | succ d ih =>
    intro k i x h hk hx hj
    obtain ⟨k, rfl⟩ : ∃ m, k = m + 1 := ⟨k - 1, by omega⟩
    simp only [laws_toIntS.l0]
    rw [if_pos (by omega), if_pos (by omega), if_pos (by omega), wrap_ok (by omega) (by omega)]
    have e : ((i : Int) + 1) = ((i + 1 : Nat) : Int) := by omega
    rw [e]
    refine ih k (i + 1) _ (by omega) (by omega) (by simpa using hx) ?_
    intro j hji
    have e2 : (i : Int).toNat = i := by omega
    rw [e2, List.getElem?_set]
    by_cases hj2 : i = j
    · subst hj2
      rw [if_pos rfl, if_pos (by omega), rd_nat, List.getElem?_eq_getElem (by omega)]
      simp
      rw [List.getElem?_eq_getElem (by omega)]
      rfl
    · rw [if_neg hj2]
      exact hj j (by omega)
theorem toIntS_k (l : List Int) (hl : l.length ≤ 1048576) (k : Nat) (hk : l.length < k) : laws_toIntS.f k l = some l := by
  unfold laws_toIntS.f
  rw [if_pos (by omega), if_pos (by omega)]
  exact toIntS_l0 l (by omega) l.length k 0 _ (by omega) hk (by simp) (by intro j hj; omega)
theorem toIntS_ev (l : List Int) (hl : l.length ≤ 1048576) : Ev (fun k => laws_toIntS.f k l) l := ⟨l.length + 1, fun k hk => toIntS_k l hl k (by omega)⟩

theorem eqIntS_l0 (l : List Int) (hl : l.length ≤ 4611686018427387904) : ∀ (d k i : Nat), i + d = l.length → d < k → laws_eqIntS.l0 k l l (i : Int) = some true := by
  intro d
  induction d with
  | zero =>
    intro k i h hk
    obtain ⟨k, rfl⟩ : ∃ m, k = m + 1 := ⟨k - 1, by omega⟩
    simp only [laws_eqIntS.l0]
    rw [if_neg (by omega)]
  | succ d ih =>
    intro k i h hk
    obtain ⟨k, rfl⟩ : ∃ m, k = m + 1 := ⟨k - 1, by omega⟩
    simp only [laws_eqIntS.l0]
    rw [if_pos (by omega), if_pos (by omega), if_pos (by omega), if_true, wrap_ok (by omega) (by omega)]
    have e : ((i : Int) + 1) = ((i + 1 : Nat) : Int) := by omega
    rw [e]
    exact ih k (i + 1) (by omega) (by omega)
theorem eqIntS_k (l : List Int) (hl : l.length ≤ 4611686018427387904) (k : Nat) (hk : l.length < k) : laws_eqIntS.f k l l = some true := by
  unfold laws_eqIntS.f
  rw [if_pos rfl]
  exact eqIntS_l0 l hl l.length k 0 (by omega) hk
theorem eqIntS_ev (l : List Int) (hl : l.length ≤ 4611686018427387904) : Ev (fun k => laws_eqIntS.f k l l) true := ⟨l.length + 1, fun k hk => eqIntS_k l hl k (by omega)⟩

theorem within_eq (a b c : Int) : impl_within.f a b c = some (decide (b ≤ a ∧ a ≤ c)) := by
  unfold impl_within.f
  by_cases h : a ≥ b <;> simp [h] <;> omega
theorem l1In_eq (a b c : Int) : spec_l1In.f a b c = some (decide (b ≤ a ∧ a ≤ c)) := by
  unfold spec_l1In.f
  by_cases h : a ≥ b <;> simp [h] <;> omega

def allIn (l : List Int) (a b : Int) : Bool := l.all fun x => decide (a ≤ x ∧ x ≤ b)
theorem getD_drop (l : List Int) (i : Nat) (h : i < l.length) : l.drop i = l.getD i 0 :: l.drop (i + 1) := by
  rw [List.drop_eq_getElem_cons h]
  simp [h]
theorem allWithin_l0 (l : List Int) (a b : Int) (hl : l.length ≤ 4611686018427387904) : ∀ (d k i : Nat), i + d = l.length → d < k → impl_allWithin.l0 k a b l (l.length : Int) (i : Int) = some (allIn (l.drop i) a b) := by
  intro d
  induction d with
  | zero =>
    intro k i h hk
    obtain ⟨k, rfl⟩ : ∃ m, k = m + 1 := ⟨k - 1, by omega⟩
    simp only [impl_allWithin.l0]
    rw [if_neg (by omega), List.drop_eq_nil_of_le (by omega)]
    rfl
  | succ d ih =>
    intro k i h hk
    obtain ⟨k, rfl⟩ : ∃ m, k = m + 1 := ⟨k - 1, by omega⟩
    simp only [impl_allWithin.l0]
    rw [if_pos (by omega), if_pos (by omega), if_pos (by omega), wrap_ok (by omega) (by omega), within_eq, getD_drop l i (by omega), rd_nat]
    have e : ((i : Int) + 1) = ((i + 1 : Nat) : Int) := by omega
    rw [e, ih k (i + 1) (by omega) (by omega)]
    simp only [Option.bind_some, allIn, List.all_cons]
    cases decide (a ≤ l.getD i 0 ∧ l.getD i 0 ≤ b) <;> simp
theorem allWithin_k (l : List Int) (a b : Int) (hl : l.length ≤ 4611686018427387904) (k : Nat) (hk : l.length < k) : impl_allWithin.f k l a b = some (allIn l a b) := by
  unfold impl_allWithin.f
  exact allWithin_l0 l a b hl l.length k 0 (by omega) hk
theorem l1All_l0 (l : List Int) (a b : Int) (hl : l.length ≤ 4611686018427387904) : ∀ (d k i : Nat), i + d = l.length → d < k → spec_l1All.l0 k a b l (l.length : Int) (i : Int) = some (allIn (l.drop i) a b) := by
  intro d
  induction d with
  | zero =>
    intro k i h hk
    obtain ⟨k, rfl⟩ : ∃ m, k = m + 1 := ⟨k - 1, by omega⟩
    simp only [spec_l1All.l0]
    rw [if_neg (by omega), List.drop_eq_nil_of_le (by omega)]
    rfl
  | succ d ih =>
    intro k i h hk
    obtain ⟨k, rfl⟩ : ∃ m, k = m + 1 := ⟨k - 1, by omega⟩
    simp only [spec_l1All.l0]
    rw [if_pos (by omega), if_pos (by omega), if_pos (by omega), wrap_ok (by omega) (by omega), l1In_eq, getD_drop l i (by omega), rd_nat]
    have e : ((i : Int) + 1) = ((i + 1 : Nat) : Int) := by omega
    rw [e, ih k (i + 1) (by omega) (by omega)]
    simp only [Option.bind_some, allIn, List.all_cons]
    cases decide (a ≤ l.getD i 0 ∧ l.getD i 0 ≤ b) <;> simp
theorem l1All_k (l : List Int) (a b : Int) (hl : l.length ≤ 4611686018427387904) (k : Nat) (hk : l.length < k) : spec_l1All.f k l a b = some (allIn l a b) := by
  unfold spec_l1All.f
  exact l1All_l0 l a b hl l.length k 0 (by omega) hk

/-- A table, told as data. -/
def isTab (R C : Int) (M : List Int) : Bool := decide (1 ≤ R ∧ R ≤ 6) && decide (1 ≤ C ∧ C ≤ 6) && decide ((M.length : Int) = R) && allIn M 0 (wrap64 (shl .i64 1 C - 1))
theorem IsTable_k (R C : Int) (M : List Int) (hM : M.length ≤ 4611686018427387904) (k : Nat) (hk : M.length < k) : impl_IsTable.f k R C M = some (isTab R C M) := by
  unfold impl_IsTable.f isTab
  simp only [within_eq, Option.bind_some]
  by_cases h1 : 1 ≤ R ∧ R ≤ 6
  · by_cases h2 : 1 ≤ C ∧ C ≤ 6
    · by_cases h3 : (M.length : Int) = R
      · rw [if_pos h3, if_pos (show 0 ≤ C by omega), allWithin_k M _ _ hM k hk]
        simp [h1, h2, h3]
      · rw [if_neg h3]
        simp [h1, h2, h3]
    · simp [h1, h2]
  · simp [h1]
theorem feGood_k (R C : Int) (M : List Int) (hM : M.length ≤ 4611686018427387904) (k : Nat) (hk : M.length < k) : spec_feGood.f k R C M = some (isTab R C M) := by
  unfold spec_feGood.f isTab
  simp only [l1In_eq, Option.bind_some]
  by_cases h1 : 1 ≤ R ∧ R ≤ 6
  · by_cases h2 : 1 ≤ C ∧ C ≤ 6
    · by_cases h3 : (M.length : Int) = R
      · rw [if_pos h3, if_pos (show 0 ≤ C by omega), l1All_k M _ _ hM k hk]
        simp [h1, h2, h3]
      · rw [if_neg h3]
        simp [h1, h2, h3]
    · simp [h1, h2]
  · simp [h1]
theorem toTable_k (R C : Int) (M : List Int) (hM : M.length ≤ 1048576) (k : Nat) (hk : M.length < k) : laws_toTable.f k R C M = some (R, C, M) := by
  unfold laws_toTable.f
  rw [toIntS_k M hM k hk]
  rfl
theorem eqTable_k (R C : Int) (M : List Int) (hM : M.length ≤ 1048576) (k : Nat) (hk : M.length < k) : laws_eqTable.f k R C M R C M = some true := by
  unfold laws_eqTable.f
  rw [if_pos rfl, if_pos rfl, eqIntS_k M (by omega) k hk]
  rfl
theorem szTable_eq (R C : Int) (M : List Int) (hm : M.length ≤ maxLen) : laws_szTable.f R C M 1048576 = some (if M.length ≤ 1048576 then 1048576 - (M.length : Int) else -1) := by
  unfold maxLen at hm
  unfold laws_szTable.f laws_szIntS.f
  rw [wrap_ok (by omega) (by omega)]
  by_cases h : M.length ≤ 1048576
  · rw [if_neg (by omega), if_pos h]
    simp only [Option.bind_some]
    rw [if_neg (by omega)]
  · rw [if_pos (by omega), if_neg h]
    simp

/-! Sets as numbers. -/
def andn (a b : Nat) : Nat := a ^^^ (a &&& b)
theorem andn_bit (a b i : Nat) : (andn a b).testBit i = (a.testBit i && !b.testBit i) := by
  unfold andn
  rw [Nat.testBit_xor, Nat.testBit_and]
  cases a.testBit i <;> cases b.testBit i <;> rfl
theorem wrap_i64_nat (n : Nat) (h : n < 2 ^ 63) : IntKind.i64.wrap (n : Int) = (n : Int) := by
  rw [IntKind.wrap_i64]
  have : (n : Int) < 9223372036854775808 := by omega
  omega
theorem ofInt_toNat (n : Nat) (h : n < 2 ^ 63) : (BitVec.ofInt 64 (n : Int)).toNat = n := by
  rw [BitVec.ofInt_natCast, BitVec.toNat_ofNat, Nat.mod_eq_of_lt (by omega)]
theorem and_nat (a b : Nat) (ha : a < 2 ^ 63) (hb : b < 2 ^ 63) : Go.bits .and .i64 (a : Int) (b : Int) = ((a &&& b : Nat) : Int) := by
  unfold Go.bits
  show IntKind.i64.wrap ((BitVec.ofInt 64 (a : Int) &&& BitVec.ofInt 64 (b : Int)).toNat : Int) = _
  rw [BitVec.toNat_and, ofInt_toNat a ha, ofInt_toNat b hb]
  exact wrap_i64_nat _ (Nat.lt_of_le_of_lt Nat.and_le_left ha)
theorem or_nat (a b : Nat) (ha : a < 2 ^ 63) (hb : b < 2 ^ 63) : Go.bits .or .i64 (a : Int) (b : Int) = ((a ||| b : Nat) : Int) := by
  unfold Go.bits
  show IntKind.i64.wrap ((BitVec.ofInt 64 (a : Int) ||| BitVec.ofInt 64 (b : Int)).toNat : Int) = _
  rw [BitVec.toNat_or, ofInt_toNat a ha, ofInt_toNat b hb]
  exact wrap_i64_nat _ (Nat.or_lt_two_pow ha hb)
theorem xor_nat (a b : Nat) (ha : a < 2 ^ 63) (hb : b < 2 ^ 63) : Go.bits .xor .i64 (a : Int) (b : Int) = ((a ^^^ b : Nat) : Int) := by
  unfold Go.bits
  show IntKind.i64.wrap ((BitVec.ofInt 64 (a : Int) ^^^ BitVec.ofInt 64 (b : Int)).toNat : Int) = _
  rw [BitVec.toNat_xor, ofInt_toNat a ha, ofInt_toNat b hb]
  exact wrap_i64_nat _ (Nat.xor_lt_two_pow ha hb)
theorem andn_le (a b : Nat) : andn a b ≤ a := Nat.le_of_testBit fun i h => by
  rw [andn_bit] at h
  cases h1 : a.testBit i
  · simp [h1] at h
  · rfl
theorem andNot_nat (a b : Nat) (ha : a < 2 ^ 63) (hb : b < 2 ^ 63) : Go.bits .andNot .i64 (a : Int) (b : Int) = ((andn a b : Nat) : Int) := by
  unfold Go.bits
  show IntKind.i64.wrap ((BitVec.ofInt 64 (a : Int) &&& ~~~ BitVec.ofInt 64 (b : Int)).toNat : Int) = _
  have e : (BitVec.ofInt 64 (a : Int) &&& ~~~ BitVec.ofInt 64 (b : Int)).toNat = andn a b := by
    apply Nat.eq_of_testBit_eq
    intro i
    rw [andn_bit, BitVec.toNat_and, Nat.testBit_and, ofInt_toNat a ha, BitVec.testBit_toNat, BitVec.getLsbD_not, BitVec.ofInt_natCast, BitVec.getLsbD_ofNat]
    by_cases hi : i < 64
    · rw [decide_eq_true hi]
      simp only [Bool.true_and]
    · have : a.testBit i = false := Nat.testBit_lt_two_pow (Nat.lt_of_lt_of_le ha (Nat.pow_le_pow_right (by omega) (by omega)))
      simp [this]
  rw [e]
  exact wrap_i64_nat _ (Nat.lt_of_le_of_lt (andn_le a b) ha)
theorem andn_zero (a b : Nat) : andn a b = 0 ↔ ∀ i, a.testBit i = true → b.testBit i = true := by
  constructor
  · intro h i hi
    have := andn_bit a b i
    rw [h, hi] at this
    cases hb : b.testBit i
    · simp [hb] at this
    · rfl
  · intro h
    apply Nat.eq_of_testBit_eq
    intro i
    rw [andn_bit]
    cases ha : a.testBit i
    · simp
    · simp [h i ha]
theorem andn_zero_le {a b : Nat} (h : andn a b = 0) : a ≤ b := Nat.le_of_testBit fun i hi => (andn_zero a b).1 h i hi
theorem andNot_le {p i : Int} (h0 : 0 ≤ p) (h1 : 0 ≤ i) (hp : p < 9223372036854775808) (hi : i < 9223372036854775808) (h : Go.bits .andNot .i64 p i = 0) : p ≤ i := by
  obtain ⟨a, rfl⟩ := Int.eq_ofNat_of_zero_le h0
  obtain ⟨b, rfl⟩ := Int.eq_ofNat_of_zero_le h1
  rw [andNot_nat a b (by omega) (by omega)] at h
  have := andn_zero_le (a := a) (b := b) (by omega)
  omega

/-- The numbers a, a + 1, .. -/
def iota (a : Int) (n : Nat) : List Int := (List.range n).map fun (j : Nat) => a + (j : Int)
theorem iota_length (a : Int) (n : Nat) : (iota a n).length = n := by simp [iota]
theorem markIntS_l0 (a : Int) (h0 : 0 ≤ a) : ∀ (d k i : Nat) (l : List Int), i + d = l.length → d < k → a + l.length < 4611686018427387904 → (∀ j, j < i → l[j]? = some (a + (j : Int))) →
    laws_markIntS.l0 k l (a + (i : Int)) (i : Int) = some (a + (l.length : Int), iota a l.length) := by
  intro d
  induction d with
  | zero =>
    intro k i l h hk ha hj
    obtain ⟨k, rfl⟩ : ∃ m, k = m + 1 := ⟨k - 1, by omega⟩
    simp only [laws_markIntS.l0]
    rw [if_neg (by omega)]
    have e : i = l.length := by omega
    subst e
    have e2 : l = iota a l.length := by
      apply List.ext_getElem?
      intro j
      by_cases hj2 : j < l.length
      · rw [hj j hj2]
        simp [iota, hj2]
      · rw [List.getElem?_eq_none (by omega), List.getElem?_eq_none (by rw [iota_length]; omega)]
    rw [← e2]
  | succ d ih =>
    intro k i l h hk ha hj
    obtain ⟨k, rfl⟩ : ∃ m, k = m + 1 := ⟨k - 1, by omega⟩
    simp only [laws_markIntS.l0]
    rw [if_pos (by omega), if_pos (by omega), wrap_ok (by omega) (by omega), wrap_ok (by omega) (by omega)]
    have e1 : ((i : Int) + 1) = ((i + 1 : Nat) : Int) := by omega
    have e2 : (a + (i : Int) + 1) = a + ((i + 1 : Nat) : Int) := by omega
    have e3 : (i : Int).toNat = i := by omega
    rw [e1, e2, e3]
    have := ih k (i + 1) (l.set i (a + (i : Int))) (by simp; omega) (by omega) (by simpa using ha) (by
      intro j hji
      rw [List.getElem?_set]
      by_cases e : i = j
      · subst e
        rw [if_pos rfl, if_pos (by omega)]
      · rw [if_neg e]
        exact hj j (by omega))
    simpa using this
theorem markIntS_k (l : List Int) (a : Int) (h0 : 0 ≤ a) (ha : a + l.length < 4611686018427387904) (k : Nat) (hk : l.length < k) : laws_markIntS.f k l a = some (a + (l.length : Int), iota a l.length) := by
  unfold laws_markIntS.f
  have := markIntS_l0 a h0 l.length k 0 l (by omega) hk ha (by intro j hj; omega)
  simpa using this
theorem heldIntS_l0 (a : Int) (n : Nat) (h0 : 0 ≤ a) (ha : a + n < 4611686018427387904) : ∀ (d k i : Nat), i + d = n → d < k → laws_heldIntS.l0 k (iota a n) (a + (i : Int)) (i : Int) = some (a + (n : Int)) := by
  intro d
  induction d with
  | zero =>
    intro k i h hk
    obtain ⟨k, rfl⟩ : ∃ m, k = m + 1 := ⟨k - 1, by omega⟩
    simp only [laws_heldIntS.l0, iota_length]
    rw [if_neg (by omega)]
    congr 1
    omega
  | succ d ih =>
    intro k i h hk
    obtain ⟨k, rfl⟩ : ∃ m, k = m + 1 := ⟨k - 1, by omega⟩
    simp only [laws_heldIntS.l0, iota_length]
    have e4 : rd (iota a n) (i : Int) = a + (i : Int) := by
      rw [rd_nat]
      simp [iota, List.getD_eq_getElem?_getD, show i < n by omega]
    rw [if_pos (by omega), if_pos (by omega), if_pos e4, wrap_ok (by omega) (by omega), wrap_ok (by omega) (by omega)]
    have e1 : ((i : Int) + 1) = ((i + 1 : Nat) : Int) := by omega
    have e2 : (a + (i : Int) + 1) = a + ((i + 1 : Nat) : Int) := by omega
    rw [e1, e2]
    exact ih k (i + 1) (by omega) (by omega)
theorem heldIntS_k (a : Int) (n : Nat) (h0 : 0 ≤ a) (ha : a + n < 4611686018427387904) (k : Nat) (hk : n < k) : laws_heldIntS.f k (iota a n) a = some (a + (n : Int)) := by
  unfold laws_heldIntS.f
  have := heldIntS_l0 a n h0 ha n k 0 (by omega) hk
  simpa using this
theorem one_add_nonneg (m : Nat) : ¬ (1 + (m : Int) < 0) := by omega

/-- The set of the j < n for which q tells true. -/
def bitsum (q : Nat → Bool) : Nat → Nat
  | 0 => 0
  | j + 1 => bitsum q j ||| (if q j then 2 ^ j else 0)
theorem bitsum_lt (q : Nat → Bool) (n : Nat) : bitsum q n < 2 ^ n := by
  induction n with
  | zero => simp [bitsum]
  | succ n ih =>
    rw [bitsum]
    apply Nat.or_lt_two_pow
    · exact Nat.lt_of_lt_of_le ih (Nat.pow_le_pow_right (by omega) (by omega))
    · split
      · exact Nat.pow_lt_pow_right (by omega) (by omega)
      · exact Nat.two_pow_pos _
theorem bitsum_bit (q : Nat → Bool) (n i : Nat) : (bitsum q n).testBit i = (decide (i < n) && q i) := by
  induction n with
  | zero => simp [bitsum]
  | succ n ih =>
    rw [bitsum, Nat.testBit_or, ih]
    by_cases e : i = n
    · subst e
      cases h : q i <;> simp [Nat.testBit_two_pow_self]
    · have : (if q n then 2 ^ n else 0).testBit i = false := by
        split
        · rw [Nat.testBit_two_pow_of_ne (by omega)]
        · simp
      rw [this]
      by_cases h : i < n
      · simp [h, show i < n + 1 by omega]
      · simp [h, show ¬ i < n + 1 by omega]
theorem bitsum_congr {q q' : Nat → Bool} (n : Nat) (h : ∀ i, i < n → q i = q' i) : bitsum q n = bitsum q' n := by
  induction n with
  | zero => rfl
  | succ n ih => rw [bitsum, bitsum, ih (fun i hi => h i (by omega)), h n (by omega)]
theorem shl_one (j : Nat) (h : j < 62) : shl .i64 1 (j : Int) = ((2 ^ j : Nat) : Int) := by
  unfold shl
  have e : min (j : Int).toNat IntKind.i64.bits = j := by
    show min (j : Int).toNat 64 = j
    omega
  rw [e]
  have e2 : (1 : Int) * 2 ^ j = ((2 ^ j : Nat) : Int) := by simp
  rw [e2]
  exact wrap_i64_nat _ (Nat.pow_lt_pow_right (by omega) (by omega))
theorem or_shl (a j : Nat) (ha : a < 2 ^ 62) (hj : j < 62) : Go.bits .or .i64 (a : Int) (shl .i64 1 (j : Int)) = ((a ||| 2 ^ j : Nat) : Int) := by
  rw [shl_one j hj]
  exact or_nat a _ (Nat.lt_of_lt_of_le ha (by decide)) (Nat.pow_lt_pow_right (by omega) (by omega))
/-- The rows' sets. -/
def relList (R C : Nat) (p : Nat → Nat → Bool) : List Int := (List.range R).map fun i => ((bitsum (p i) C : Nat) : Int)
theorem relList_length (R C : Nat) (p : Nat → Nat → Bool) : (relList R C p).length = R := by simp [relList]
theorem relList_congr {R C : Nat} {p p' : Nat → Nat → Bool} (h : ∀ i j, i < R → j < C → p i j = p' i j) : relList R C p = relList R C p' := by
  unfold relList
  apply List.map_congr_left
  intro i hi
  rw [bitsum_congr C (fun j hj => h i j (by simpa using hi) hj)]
/-- A list that is being filled: the first i rows are whole, the row i has the columns < j, the others are 0. -/
def part (R C : Nat) (p : Nat → Nat → Bool) (i j : Nat) : List Int := (List.range R).map fun r => if r < i then ((bitsum (p r) C : Nat) : Int) else if r = i then ((bitsum (p r) j : Nat) : Int) else 0
theorem part_length (R C : Nat) (p : Nat → Nat → Bool) (i j : Nat) : (part R C p i j).length = R := by simp [part]
theorem part_start (R C : Nat) (p : Nat → Nat → Bool) : List.replicate R 0 = part R C p 0 0 := by
  apply List.ext_getElem?
  intro r
  by_cases h : r < R
  · simp [part, h, List.getElem?_replicate, bitsum]
  · rw [List.getElem?_eq_none (by simp; omega), List.getElem?_eq_none (by rw [part_length]; omega)]
theorem part_next (R C : Nat) (p : Nat → Nat → Bool) (i : Nat) : part R C p i C = part R C p (i + 1) 0 := by
  apply List.ext_getElem?
  intro r
  by_cases h : r < R
  · simp only [part, List.getElem?_map, List.getElem?_range h, Option.map_some]
    by_cases h1 : r < i
    · simp [h1, show r < i + 1 by omega]
    · by_cases h2 : r = i
      · simp [h2]
      · simp [h1, h2, show ¬ r < i + 1 by omega, bitsum]
  · rw [List.getElem?_eq_none (by rw [part_length]; omega), List.getElem?_eq_none (by rw [part_length]; omega)]
theorem part_end (R C : Nat) (p : Nat → Nat → Bool) : part R C p R 0 = relList R C p := by
  unfold part relList
  apply List.map_congr_left
  intro r hr
  rw [if_pos (by simpa using hr)]
theorem part_rd (R C : Nat) (p : Nat → Nat → Bool) (i j : Nat) (hi : i < R) : rd (part R C p i j) (i : Int) = ((bitsum (p i) j : Nat) : Int) := by
  rw [rd_nat]
  simp [part, List.getD_eq_getElem?_getD, hi]
theorem part_set (R C : Nat) (p : Nat → Nat → Bool) (i j : Nat) (hi : i < R) (hp : p i j = true) : (part R C p i j).set i ((bitsum (p i) j ||| 2 ^ j : Nat) : Int) = part R C p i (j + 1) := by
  apply List.ext_getElem?
  intro r
  by_cases h : r < R
  · rw [List.getElem?_set]
    simp only [part, List.getElem?_map, List.getElem?_range h, Option.map_some, List.length_map, List.length_range]
    by_cases e : i = r
    · subst e
      simp [h, bitsum, hp]
    · rw [if_neg e]
      simp [show ¬ r = i from fun h => e h.symm]
  · rw [List.getElem?_eq_none (by simp [part_length]; omega), List.getElem?_eq_none (by rw [part_length]; omega)]
theorem part_skip (R C : Nat) (p : Nat → Nat → Bool) (i j : Nat) (hp : p i j = false) : part R C p i j = part R C p i (j + 1) := by
  unfold part
  apply List.map_congr_left
  intro r _
  by_cases h1 : r < i
  · simp [h1]
  · by_cases h2 : r = i
    · subst h2
      simp [bitsum, hp]
    · simp [h1, h2]

theorem markTable_k (R C : Int) (l : List Int) (hl : l.length ≤ 1048576) (k : Nat) (hk : l.length < k) : laws_markTable.f k R C l 1 = some (1 + (l.length : Int), iota 1 l.length) := by
  unfold laws_markTable.f
  rw [markIntS_k l 1 (by omega) (by omega) k hk]
  rfl

/-- The columns of a table's marks, as a number. -/
theorem allIn_iff (l : List Int) (a b : Int) : allIn l a b = true ↔ ∀ x ∈ l, a ≤ x ∧ x ≤ b := by
  unfold allIn
  rw [List.all_eq_true]
  simp
/-- What a table is: its rows, its columns, and each row's marks as a number. -/
theorem isTab_iff (R C : Int) (M : List Int) : isTab R C M = true ↔ ∃ (r c : Nat) (ms : List Nat), R = (r : Int) ∧ C = (c : Int) ∧ M = ms.map (fun (x : Nat) => (x : Int)) ∧ 1 ≤ r ∧ r ≤ 6 ∧ 1 ≤ c ∧ c ≤ 6 ∧ ms.length = r ∧ ∀ x ∈ ms, x < 2 ^ c := by
  unfold isTab
  simp only [Bool.and_eq_true, decide_eq_true_eq, allIn_iff]
  constructor
  · rintro ⟨⟨⟨h1, h2⟩, h3⟩, h4⟩
    have ec : C = ((C.toNat : Nat) : Int) := by omega
    have e5 : wrap64 (shl .i64 1 C - 1) = ((2 ^ C.toNat - 1 : Nat) : Int) := by
      rw [ec, shl_one C.toNat (by omega)]
      have hp : 0 < 2 ^ C.toNat := Nat.two_pow_pos _
      have hq : 2 ^ C.toNat ≤ 2 ^ 6 := Nat.pow_le_pow_right (by omega) (by omega)
      have e6 : (((C.toNat : Nat) : Int)).toNat = C.toNat := by omega
      rw [e6, wrap_ok (by omega) (by omega)]
      omega
    rw [e5] at h4
    refine ⟨R.toNat, C.toNat, M.map Int.toNat, by omega, ec, ?_, by omega, by omega, by omega, by omega, by simp; omega, ?_⟩
    · rw [List.map_map]
      conv => lhs; rw [← List.map_id M]
      apply List.map_congr_left
      intro x hx
      have := h4 x hx
      show x = ((x.toNat : Nat) : Int)
      omega
    · intro x hx
      obtain ⟨y, hy, rfl⟩ := List.mem_map.1 hx
      have := h4 y hy
      have hp : 0 < 2 ^ C.toNat := Nat.two_pow_pos _
      omega
  · rintro ⟨r, c, ms, rfl, rfl, rfl, h1, h2, h3, h4, h5, h6⟩
    have hp : 0 < 2 ^ c := Nat.two_pow_pos _
    have hq : 2 ^ c ≤ 2 ^ 6 := Nat.pow_le_pow_right (by omega) (by omega)
    have e5 : wrap64 (shl .i64 1 (c : Int) - 1) = ((2 ^ c - 1 : Nat) : Int) := by
      rw [shl_one c (by omega), wrap_ok (by omega) (by omega)]
      omega
    refine ⟨⟨⟨by omega, by omega⟩, by simp; omega⟩, ?_⟩
    intro x hx
    obtain ⟨y, hy, rfl⟩ := List.mem_map.1 hx
    have := h6 y hy
    rw [e5]
    omega
/-- Is a row marked in a column? -/
def mk (ms : List Nat) (r c : Nat) : Bool := (ms.getD r 0).testBit c
theorem rd_map (ms : List Nat) (i : Nat) : rd (ms.map (fun (x : Nat) => (x : Int))) (i : Int) = ((ms.getD i 0 : Nat) : Int) := by
  rw [rd_nat]
  simp only [List.getD_eq_getElem?_getD, List.getElem?_map]
  cases ms[i]? <;> simp
theorem getD_lt {ms : List Nat} {b : Nat} (hb : 0 < b) (h : ∀ x ∈ ms, x < b) (i : Nat) : ms.getD i 0 < b := by
  rw [List.getD_eq_getElem?_getD]
  cases hx : ms[i]? with
  | none => simpa using hb
  | some x => exact h x (List.mem_of_getElem? hx)
/-- The bit of a number, as Go asks it. -/
theorem shr_nat (x c : Nat) (hc : c < 64) : shr .i64 (x : Int) (c : Int) = ((x / 2 ^ c : Nat) : Int) := by
  unfold shr
  have e : min (c : Int).toNat IntKind.i64.bits = c := by
    show min (c : Int).toNat 64 = c
    omega
  rw [e]
  simp
theorem bit_and (x c : Nat) (hx : x < 2 ^ 63) (hc : c < 64) : (Go.bits .and .i64 (shr .i64 (x : Int) (c : Int)) 1 == 1) = x.testBit c := by
  rw [shr_nat x c hc]
  have h1 : x / 2 ^ c < 2 ^ 63 := Nat.lt_of_le_of_lt (Nat.div_le_self _ _) hx
  have e : Go.bits .and .i64 ((x / 2 ^ c : Nat) : Int) 1 = ((x / 2 ^ c &&& 1 : Nat) : Int) := and_nat _ 1 h1 (by decide)
  rw [e, Nat.and_one_is_mod]
  have e2 : x.testBit c = decide (x / 2 ^ c % 2 = 1) := Nat.testBit_eq_decide_div_mod_eq
  rw [e2]
  by_cases h : x / 2 ^ c % 2 = 1
  · simp [h]
  · have : x / 2 ^ c % 2 = 0 := by omega
    simp [this]
theorem marked_k (R C : Int) (ms : List Nat) (r c : Nat) (hb : ∀ x ∈ ms, x < 64) (hr : r < ms.length) (hc : c < 60) : impl_Table_marked.f R C (ms.map (fun (x : Nat) => (x : Int))) (r : Int) (c : Int) = some (mk ms r c) := by
  unfold impl_Table_marked.f mk
  have := getD_lt (b := 64) (by omega) hb r
  rw [if_pos (by omega), if_pos (by simpa using hr), if_pos (by omega), rd_map, bit_and _ c (by omega) (by omega)]

theorem tmod_nat (n : Nat) : Int.tmod (n : Int) 2 = ((n % 2 : Nat) : Int) := by
  rw [Int.tmod_eq_emod_of_nonneg (by omega)]
  omega
theorem orHas_k (x i : Nat) (hi : i < 64) : spec_orHas.f (x : Int) (i : Int) = some (x.testBit i) := by
  unfold spec_orHas.f
  rw [if_pos (by omega), shr_nat x i hi, tmod_nat]
  have e2 : x.testBit i = decide (x / 2 ^ i % 2 = 1) := Nat.testBit_eq_decide_div_mod_eq
  rw [e2]
  congr 1
  by_cases h : x / 2 ^ i % 2 = 1
  · simp [h]
  · have : x / 2 ^ i % 2 = 0 := by omega
    simp [this]

/-! A loop that looks for the first index for which something is told: what it tells with enough rounds. -/
/-- One round of such a loop: what is told ends it; else it goes on. -/
def Step {α : Type} (F : Nat → Nat → Option α) (G : Nat → Option α) (c i : Nat) : Prop :=
  (∀ v, G i = some v → ∀ k, c ≤ k → F (k + 1) i = some v) ∧ (G i = none → ∀ K r, (∀ k, K ≤ k → F k (i + 1) = some r) → ∀ k, K + c ≤ k → F (k + 1) i = some r)
theorem search {α : Type} (F : Nat → Nat → Option α) (n c : Nat) (G : Nat → Option α) (h : ∀ i, i < n → Step F G c i) :
    ∀ e i, i + e = n → (∀ v, (List.range' i e).findSome? G = some v → ∀ k, e * (c + 1) ≤ k → F k i = some v) ∧
      ((List.range' i e).findSome? G = none → ∀ K r, (∀ k, K ≤ k → F k n = some r) → ∀ k, K + e * (c + 1) ≤ k → F k i = some r) := by
  intro e
  induction e with
  | zero =>
    intro i hi
    have e0 : i = n := by omega
    subst e0
    exact ⟨fun v h => by simp at h, fun _ K r h k hk => h k (by omega)⟩
  | succ e ih =>
    intro i hi
    obtain ⟨ihA, ihB⟩ := ih (i + 1) (by omega)
    obtain ⟨hb, hs⟩ := h i (by omega)
    rw [List.range'_succ, List.findSome?_cons]
    refine ⟨fun v h k hk => ?_, fun h K r hr k hk => ?_⟩
    · rw [Nat.succ_mul] at hk
      obtain ⟨k, rfl⟩ : ∃ m, k = m + 1 := ⟨k - 1, by omega⟩
      cases hG : G i with
      | some w =>
        rw [hG] at h
        exact hb v (by rw [hG]; exact h) k (by omega)
      | none =>
        rw [hG] at h
        exact hs hG (e * (c + 1)) v (fun k hk => ihA v h k hk) k (by omega)
    · rw [Nat.succ_mul] at hk
      obtain ⟨k, rfl⟩ : ∃ m, k = m + 1 := ⟨k - 1, by omega⟩
      cases hG : G i with
      | some w =>
        rw [hG] at h
        cases h
      | none =>
        rw [hG] at h
        exact hs hG (K + e * (c + 1)) r (fun k hk => ihB h K r hr k hk) k (by omega)
/-- A loop within a loop: the outer one's round is the inner one from its start; at its end it goes on. -/
theorem search2 {α : Type} {F I : Nat → Nat → Option α} {m c : Nat} {G : Nat → Option α} {GO : Nat → Option α} {i : Nat} (b : Nat)
    (h : ∀ j, j < m → Step I G c j) (hG : GO i = (List.range' 0 m).findSome? G) (hin : ∀ k, b ≤ k → F (k + 1) i = I k 0) (hout : ∀ k, I (k + 1) m = F k (i + 1)) : Step F GO (b + m * (c + 1) + 1) i := by
  obtain ⟨hA, hB⟩ := search I m c G h m 0 (by omega)
  unfold Step
  rw [hG]
  refine ⟨fun v h k hk => ?_, fun h K r hr k hk => ?_⟩
  · rw [hin k (by omega)]
    exact hA v h k (by omega)
  · rw [hin k (by omega)]
    refine hB h (K + 1) r (fun k hk => ?_) k (by omega)
    obtain ⟨k, rfl⟩ : ∃ q, k = q + 1 := ⟨k - 1, by omega⟩
    rw [hout]
    exact hr k (by omega)
/-- A whole search: the first that is told, or what stands at the end. -/
theorem search0 {α : Type} {F : Nat → Nat → Option α} {n c : Nat} {G : Nat → Option α} (h : ∀ i, i < n → Step F G c i) (z : α) (hz : ∀ k, F (k + 1) n = some z) (k : Nat) (hk : n * (c + 1) + 1 ≤ k) :
    F k 0 = some (((List.range' 0 n).findSome? G).getD z) := by
  obtain ⟨hA, hB⟩ := search F n c G h n 0 (by omega)
  cases h0 : (List.range' 0 n).findSome? G with
  | some v => exact hA v h0 k (by omega)
  | none =>
    refine hB h0 1 z (fun k hk => ?_) k (by omega)
    obtain ⟨k, rfl⟩ : ∃ q, k = q + 1 := ⟨k - 1, by omega⟩
    exact hz k
theorem nat_succ (i : Nat) : ((i : Int) + 1) = ((i + 1 : Nat) : Int) := by omega
theorem fs_none {α : Type} (n : Nat) (G : Nat → Option α) : (List.range' 0 n).findSome? G = none ↔ ∀ i, i < n → G i = none := by
  rw [List.findSome?_eq_none_iff]
  constructor
  · intro h i hi
    exact h i (by rw [List.mem_range']; exact ⟨i, hi, by omega⟩)
  · intro h x hx
    rw [List.mem_range'] at hx
    obtain ⟨i, hi, e⟩ := hx
    exact h x (by omega)
theorem fs_some {α : Type} (n : Nat) (G : Nat → Option α) (v : α) (h : (List.range' 0 n).findSome? G = some v) : ∃ i, i < n ∧ G i = some v := by
  obtain ⟨x, hx, hv⟩ := List.exists_of_findSome?_eq_some h
  rw [List.mem_range'] at hx
  obtain ⟨i, hi, e⟩ := hx
  exact ⟨x, by omega, hv⟩

/-- Four cells that refuse a table. -/
def four (ms : List Nat) (r c s d : Nat) : Bool := mk ms r c && !mk ms r d && mk ms s d && !mk ms s c
def four4 (ms : List Nat) (r c s d : Nat) : Option (List Int) := if four ms r c s d = true then some [(r : Int), (c : Int), (s : Int), (d : Int)] else none
def four3 (C : Nat) (ms : List Nat) (r c s : Nat) : Option (List Int) := (List.range' 0 C).findSome? (four4 ms r c s)
def four2 (R C : Nat) (ms : List Nat) (r c : Nat) : Option (List Int) := (List.range' 0 R).findSome? (four3 C ms r c)
def four1 (R C : Nat) (ms : List Nat) (r : Nat) : Option (List Int) := (List.range' 0 C).findSome? (four2 R C ms r)
def four0 (R C : Nat) (ms : List Nat) : Option (List Int) := (List.range' 0 R).findSome? (four1 R C ms)
abbrev asInts (ms : List Nat) : List Int := ms.map (fun (x : Nat) => (x : Int))
theorem four_l3 (R C : Nat) (ms : List Nat) (hR : ms.length = R) (hC : C ≤ 6) (hb : ∀ x ∈ ms, x < 64) (r c s : Nat) (hr : r < R) (hc : c < C) (hs : s < R) (d : Nat) (hd : d < C) :
    Step (fun k d => impl_Table_fourCells.l3 k (r : Int) (c : Int) (s : Int) (R : Int) (r : Int) (C : Int) (c : Int) (R : Int) (s : Int) (C : Int) (d : Int) (R : Int) (C : Int) (asInts ms)) (four4 ms r c s) 0 d := by
  refine ⟨fun v hv k _ => ?_, fun hv K v hK k hk => ?_⟩
  all_goals
    have q1 := marked_k (R : Int) (C : Int) ms r c hb (by omega) (by omega)
    have q2 := marked_k (R : Int) (C : Int) ms r d hb (by omega) (by omega)
    have q3 := marked_k (R : Int) (C : Int) ms s d hb (by omega) (by omega)
    have q4 := marked_k (R : Int) (C : Int) ms s c hb (by omega) (by omega)
    simp only [impl_Table_fourCells.l3]
    rw [if_pos (by omega), q1, q2, q3, q4, wrap_ok (by omega) (by omega), nat_succ]
    unfold four4 four at hv
    simp only [Option.bind_some]
  · cases h1 : mk ms r c <;> cases h2 : mk ms r d <;> cases h3 : mk ms s d <;> cases h4 : mk ms s c <;> simp [h1, h2, h3, h4] at hv ⊢
    exact hv
  · have hn := hK k (by omega)
    cases h1 : mk ms r c <;> cases h2 : mk ms r d <;> cases h3 : mk ms s d <;> cases h4 : mk ms s c <;> simp [h1, h2, h3, h4] at hv ⊢ <;> exact hn
theorem four_l2 (R C : Nat) (ms : List Nat) (hR : ms.length = R) (hR6 : R ≤ 6) (hC : C ≤ 6) (hb : ∀ x ∈ ms, x < 64) (r c : Nat) (hr : r < R) (hc : c < C) (s : Nat) (hs : s < R) :
    Step (fun k s => impl_Table_fourCells.l2 k (r : Int) (c : Int) (R : Int) (r : Int) (C : Int) (c : Int) (R : Int) (s : Int) (R : Int) (C : Int) (asInts ms)) (four3 C ms r c) (0 + C * (0 + 1) + 1) s :=
  search2 0 (four_l3 R C ms hR hC hb r c s hr hc hs) rfl
    (fun k _ => by simp only [impl_Table_fourCells.l2]; rw [if_pos (by omega)]; rfl)
    (fun k => by simp only [impl_Table_fourCells.l3]; rw [if_neg (by omega), wrap_ok (by omega) (by omega), nat_succ])
theorem four_l1 (R C : Nat) (ms : List Nat) (hR : ms.length = R) (hR6 : R ≤ 6) (hC : C ≤ 6) (hb : ∀ x ∈ ms, x < 64) (r : Nat) (hr : r < R) (c : Nat) (hc : c < C) :
    Step (fun k c => impl_Table_fourCells.l1 k (r : Int) (R : Int) (r : Int) (C : Int) (c : Int) (R : Int) (C : Int) (asInts ms)) (four2 R C ms r) (0 + R * (0 + C * (0 + 1) + 1 + 1) + 1) c :=
  search2 0 (four_l2 R C ms hR hR6 hC hb r c hr hc) rfl
    (fun k _ => by simp only [impl_Table_fourCells.l1]; rw [if_pos (by omega)]; rfl)
    (fun k => by simp only [impl_Table_fourCells.l2]; rw [if_neg (by omega), wrap_ok (by omega) (by omega), nat_succ])
theorem four_l0 (R C : Nat) (ms : List Nat) (hR : ms.length = R) (hR6 : R ≤ 6) (hC : C ≤ 6) (hb : ∀ x ∈ ms, x < 64) (r : Nat) (hr : r < R) :
    Step (fun k r => impl_Table_fourCells.l0 k (R : Int) (r : Int) (R : Int) (C : Int) (asInts ms)) (four1 R C ms) (0 + C * (0 + R * (0 + C * (0 + 1) + 1 + 1) + 1 + 1) + 1) r :=
  search2 0 (four_l1 R C ms hR hR6 hC hb r hr) rfl
    (fun k _ => by simp only [impl_Table_fourCells.l0]; rw [if_pos (by omega)]; rfl)
    (fun k => by simp only [impl_Table_fourCells.l1]; rw [if_neg (by omega), wrap_ok (by omega) (by omega), nat_succ])
theorem four_bound (R C : Nat) (hR6 : R ≤ 6) (hC : C ≤ 6) : R * (0 + C * (0 + R * (0 + C * (0 + 1) + 1 + 1) + 1 + 1) + 1 + 1) + 1 ≤ 4000 := by
  have h1 : C * (0 + 1) ≤ 6 * (0 + 1) := Nat.mul_le_mul hC (Nat.le_refl _)
  have h2 : R * (0 + C * (0 + 1) + 1 + 1) ≤ 6 * (0 + 6 * (0 + 1) + 1 + 1) := Nat.mul_le_mul hR6 (by omega)
  have h3 : C * (0 + R * (0 + C * (0 + 1) + 1 + 1) + 1 + 1) ≤ 6 * (0 + 6 * (0 + 6 * (0 + 1) + 1 + 1) + 1 + 1) := Nat.mul_le_mul hC (by omega)
  have h4 : R * (0 + C * (0 + R * (0 + C * (0 + 1) + 1 + 1) + 1 + 1) + 1 + 1) ≤ 6 * (0 + 6 * (0 + 6 * (0 + 6 * (0 + 1) + 1 + 1) + 1 + 1) + 1 + 1) := Nat.mul_le_mul hR6 (by omega)
  omega
/-- The first four cells that refuse a table, or nothing. -/
theorem fourCells_k (R C : Nat) (ms : List Nat) (hR : ms.length = R) (hR6 : R ≤ 6) (hC : C ≤ 6) (hb : ∀ x ∈ ms, x < 64) (k : Nat) (hk : 4000 ≤ k) : impl_Table_fourCells.f k (R : Int) (C : Int) (asInts ms) = some ((four0 R C ms).getD []) := by
  unfold impl_Table_fourCells.f
  have hn := four_bound R C hR6 hC
  exact search0 (four_l0 R C ms hR hR6 hC hb) [] (fun k => by simp only [impl_Table_fourCells.l0]; rw [if_neg (by omega)]) k (by omega)
theorem four0_ne (R C : Nat) (ms : List Nat) (v : List Int) (h : four0 R C ms = some v) : v ≠ [] := by
  unfold four0 at h
  obtain ⟨i, _, h1⟩ := fs_some _ _ _ h
  unfold four1 at h1
  obtain ⟨j, _, h2⟩ := fs_some _ _ _ h1
  unfold four2 at h2
  obtain ⟨i, _, h3⟩ := fs_some _ _ _ h2
  unfold four3 at h3
  obtain ⟨i, _, h4⟩ := fs_some _ _ _ h3
  unfold four4 at h4
  split at h4
  · injection h4 with h4
    rw [← h4]
    simp
  · cases h4
theorem four_len (R C : Nat) (ms : List Nat) : ((four0 R C ms).getD []).length ≤ 4 := by
  cases h : four0 R C ms with
  | none => simp
  | some v =>
    unfold four0 at h
    obtain ⟨i, _, h1⟩ := fs_some _ _ _ h
    unfold four1 at h1
    obtain ⟨j, _, h2⟩ := fs_some _ _ _ h1
    unfold four2 at h2
    obtain ⟨i, _, h3⟩ := fs_some _ _ _ h2
    unfold four3 at h3
    obtain ⟨i, _, h4⟩ := fs_some _ _ _ h3
    unfold four4 at h4
    split at h4
    · injection h4 with h4
      rw [← h4]
      simp
    · cases h4

/-- Do two rows refuse a table? -/
def bio2 (ms : List Nat) (i j : Nat) : Option Bool := if andn (ms.getD i 0) (ms.getD j 0) ≠ 0 ∧ andn (ms.getD j 0) (ms.getD i 0) ≠ 0 then some false else none
def bio1 (ms : List Nat) (i : Nat) : Option Bool := (List.range' 0 ms.length).findSome? (bio2 ms i)
def bio0 (ms : List Nat) : Option Bool := (List.range' 0 ms.length).findSome? (bio1 ms)
theorem bio_in (R C : Int) (ms : List Nat) (h6 : ms.length ≤ 6) (hb : ∀ x ∈ ms, x < 64) (i : Nat) (j : Nat) (hj : j < ms.length) :
    Step (fun k j => spec_feBiorder.l1 k ((ms.getD i 0 : Nat) : Int) (asInts ms) (ms.length : Int) (i : Int) (asInts ms) (ms.length : Int) (j : Int) R C (asInts ms)) (bio2 ms i) 0 j := by
  refine ⟨fun v hv k _ => ?_, fun hv K v hK k hk => ?_⟩
  all_goals
    have a1 := getD_lt (b := 64) (by omega) hb i
    have a2 := getD_lt (b := 64) (by omega) hb j
    have l1 : ((asInts ms).length : Int) = (ms.length : Int) := by simp
    simp only [spec_feBiorder.l1]
    rw [if_pos (by omega), if_pos (by omega), if_pos (by omega), rd_map, andNot_nat _ _ (by omega) (by omega), andNot_nat _ _ (by omega) (by omega), wrap_ok (by omega) (by omega), nat_succ]
    unfold bio2 at hv
  · by_cases h1 : andn (ms.getD i 0) (ms.getD j 0) = 0
    · rw [if_neg (fun hh => hh.1 h1)] at hv
      cases hv
    · by_cases h2 : andn (ms.getD j 0) (ms.getD i 0) = 0
      · rw [if_neg (fun hh => hh.2 h2)] at hv
        cases hv
      · rw [if_neg (by omega), if_neg (by omega)]
        rw [if_pos ⟨h1, h2⟩] at hv
        exact hv
  · have hn := hK k (by omega)
    by_cases h1 : andn (ms.getD i 0) (ms.getD j 0) = 0
    · rw [if_pos (by omega)]
      exact hn
    · by_cases h2 : andn (ms.getD j 0) (ms.getD i 0) = 0
      · rw [if_neg (by omega), if_pos (by omega)]
        exact hn
      · rw [if_pos ⟨h1, h2⟩] at hv
        cases hv
theorem bio_out (R C : Int) (ms : List Nat) (h6 : ms.length ≤ 6) (hb : ∀ x ∈ ms, x < 64) (i : Nat) (hi : i < ms.length) :
    Step (fun k i => spec_feBiorder.l0 k (asInts ms) (ms.length : Int) (i : Int) R C (asInts ms)) (bio1 ms) (0 + ms.length * (0 + 1) + 1) i :=
  search2 0 (bio_in R C ms h6 hb i) rfl
    (fun k _ => by
      have l1 : ((asInts ms).length : Int) = (ms.length : Int) := by simp
      simp only [spec_feBiorder.l0]
      rw [if_pos (by omega), if_pos (by omega), if_pos (by omega), rd_map, l1]
      rfl)
    (fun k => by simp only [spec_feBiorder.l1]; rw [if_neg (by omega), wrap_ok (by omega) (by omega), nat_succ])
theorem feBiorder_k (R C : Int) (ms : List Nat) (h6 : ms.length ≤ 6) (hb : ∀ x ∈ ms, x < 64) (k : Nat) (hk : 100 ≤ k) : spec_feBiorder.f k R C (asInts ms) = some ((bio0 ms).getD true) := by
  unfold spec_feBiorder.f
  have hn : ms.length * (0 + ms.length * (0 + 1) + 1 + 1) ≤ 6 * (0 + 6 * (0 + 1) + 1 + 1) := Nat.mul_le_mul h6 (by omega)
  have l1 : ((asInts ms).length : Int) = (ms.length : Int) := by simp
  rw [l1]
  exact search0 (bio_out R C ms h6 hb) true (fun k => by simp only [spec_feBiorder.l0]; rw [if_neg (by omega)]) k (by omega)
theorem andn_ne (a b : Nat) : andn a b ≠ 0 ↔ ∃ i, a.testBit i = true ∧ b.testBit i = false := by
  constructor
  · intro h
    apply Classical.byContradiction
    intro hn
    apply h
    rw [andn_zero]
    intro i hi
    cases hb : b.testBit i
    · exact absurd ⟨i, hi, hb⟩ hn
    · rfl
  · rintro ⟨i, h1, h2⟩ h
    have := (andn_zero a b).1 h i h1
    rw [h2] at this
    cases this
theorem bit_lt {x c i : Nat} (hx : x < 2 ^ c) (h : x.testBit i = true) : i < c := by
  apply Classical.byContradiction
  intro hn
  have : x.testBit i = false := Nat.testBit_lt_two_pow (Nat.lt_of_lt_of_le hx (Nat.pow_le_pow_right (by omega) (by omega)))
  rw [h] at this
  cases this
/-- No four cells refuse a table exactly if no two rows do. -/
theorem four_bio (R C : Nat) (ms : List Nat) (hR : ms.length = R) (hb : ∀ x ∈ ms, x < 2 ^ C) : four0 R C ms = none ↔ bio0 ms = none := by
  subst hR
  unfold four0 bio0
  rw [fs_none, fs_none]
  constructor
  · intro h i hi
    unfold bio1
    rw [fs_none]
    intro j hj
    unfold bio2
    rw [if_neg]
    rintro ⟨h1, h2⟩
    obtain ⟨c, hc1, hc2⟩ := (andn_ne _ _).1 h1
    obtain ⟨d, hd1, hd2⟩ := (andn_ne _ _).1 h2
    have hcC := bit_lt (getD_lt (Nat.two_pow_pos _) hb i) hc1
    have hdC := bit_lt (getD_lt (Nat.two_pow_pos _) hb j) hd1
    have g1 := h i hi
    unfold four1 at g1
    rw [fs_none] at g1
    have g2 := g1 c hcC
    unfold four2 at g2
    rw [fs_none] at g2
    have g3 := g2 j hj
    unfold four3 at g3
    rw [fs_none] at g3
    have g4 := g3 d hdC
    unfold four4 four mk at g4
    rw [hc1, hc2, hd1, hd2] at g4
    simp at g4
  · intro h r hr
    unfold four1
    rw [fs_none]
    intro c hc
    unfold four2
    rw [fs_none]
    intro s hs
    unfold four3
    rw [fs_none]
    intro d hd
    unfold four4
    rw [if_neg]
    intro hf
    unfold four mk at hf
    simp only [Bool.and_eq_true, Bool.not_eq_true'] at hf
    obtain ⟨⟨⟨f1, f2⟩, f3⟩, f4⟩ := hf
    have g1 := h r hr
    unfold bio1 at g1
    rw [fs_none] at g1
    have g2 := g1 s hs
    unfold bio2 at g2
    rw [if_pos ⟨(andn_ne _ _).2 ⟨c, f1, f4⟩, (andn_ne _ _).2 ⟨d, f3, f2⟩⟩] at g2
    cases g2
theorem bio0_false (ms : List Nat) (v : Bool) (h : bio0 ms = some v) : v = false := by
  unfold bio0 at h
  obtain ⟨i, _, h1⟩ := fs_some _ _ _ h
  unfold bio1 at h1
  obtain ⟨j, _, h2⟩ := fs_some _ _ _ h1
  unfold bio2 at h2
  split at h2
  · injection h2 with h2
    exact h2.symm
  · cases h2

/-- A number put into a rising list. -/
def putI : List Int → Int → List Int
  | [], v => [v]
  | x :: l, v => if x < v then x :: putI l v else if x = v then x :: l else v :: x :: l
theorem putI_len (v : Int) : ∀ l : List Int, (putI l v).length ≤ l.length + 1
  | [] => by simp [putI]
  | x :: l => by
    have := putI_len v l
    simp only [putI]
    split
    · simp; omega
    · split
      · simp
      · simp
theorem mem_putI (v y : Int) : ∀ l : List Int, y ∈ putI l v ↔ y = v ∨ y ∈ l
  | [] => by simp [putI]
  | x :: l => by
    have := mem_putI v y l
    simp only [putI]
    split
    · rw [List.mem_cons, this, List.mem_cons]
      constructor
      · rintro (h | h | h)
        · exact .inr (.inl h)
        · exact .inl h
        · exact .inr (.inr h)
      · rintro (h | h | h)
        · exact .inr (.inl h)
        · exact .inl h
        · exact .inr (.inr h)
    · split
      · rename_i h1 h2
        subst h2
        simp
      · simp
theorem putI_up (v : Int) : ∀ l : List Int, l.Pairwise (· < ·) → (putI l v).Pairwise (· < ·)
  | [], _ => by simp [putI]
  | x :: l, h => by
    obtain ⟨h1, h2⟩ := List.pairwise_cons.1 h
    have := putI_up v l h2
    simp only [putI]
    split
    · rename_i hx
      refine List.pairwise_cons.2 ⟨fun y hy => ?_, this⟩
      rcases (mem_putI v y l).1 hy with rfl | hy
      · exact hx
      · exact h1 y hy
    · split
      · exact h
      · rename_i hx hx2
        refine List.pairwise_cons.2 ⟨fun y hy => ?_, h⟩
        rcases List.mem_cons.1 hy with rfl | hy
        · omega
        · have := h1 y hy
          omega
theorem l1Put_l0 (l : List Int) (v : Int) (hl : l.length ≤ 1000) : ∀ (d k i : Nat), i + d = l.length → d < k → spec_l1Put.l0 k l v (i : Int) = some (l.take i ++ putI (l.drop i) v) := by
  intro d
  induction d with
  | zero =>
    intro k i hi hk
    obtain ⟨k, rfl⟩ : ∃ m, k = m + 1 := ⟨k - 1, by omega⟩
    have e2 : ((i : Int)).toNat = i := by omega
    have e : i = l.length := by omega
    rw [spec_l1Put.l0, if_neg (by omega)]
    simp only [Option.bind_some, e2, List.nil_append, List.length_nil, Nat.zero_add]
    rw [if_pos (by omega), if_pos (by omega), if_pos (by rw [List.length_take]; omega), if_pos (by rw [List.length_take]; omega), if_pos (by rw [List.length_append, List.length_take, List.length_drop]; simp; omega)]
    subst e
    simp [putI]
  | succ d ih =>
    intro k i hi hk
    obtain ⟨k, rfl⟩ : ∃ m, k = m + 1 := ⟨k - 1, by omega⟩
    have e2 : ((i : Int)).toNat = i := by omega
    have hil : i < l.length := by omega
    have hdr : l.drop i = l[i] :: l.drop (i + 1) := List.drop_eq_getElem_cons hil
    have hrd : rd l (i : Int) = l[i] := by rw [rd_nat, List.getD_eq_getElem?_getD, List.getElem?_eq_getElem hil]; rfl
    rw [spec_l1Put.l0, if_pos (by omega), if_pos (by omega), hrd]
    by_cases h1 : l[i] < v
    · rw [if_pos h1, wrap_ok (by omega) (by omega), show ((i : Int) + 1) = ((i + 1 : Nat) : Int) by omega, ih k (i + 1) (by omega) (by omega), hdr]
      simp only [putI, if_pos h1]
      rw [List.take_add_one, List.getElem?_eq_getElem hil, Option.toList_some, List.append_assoc]
      rfl
    · rw [if_neg h1]
      by_cases h2 : l[i] = v
      · rw [if_pos h2, hdr]
        simp only [putI, if_neg h1, if_pos h2]
        rw [← hdr, List.take_append_drop]
      · rw [if_neg h2]
        simp only [Option.bind_some, e2, List.nil_append, List.length_nil, Nat.zero_add]
        rw [if_pos (by omega), if_pos (by rw [List.length_take]; omega), if_pos (by rw [List.length_take]; omega), if_pos (by rw [List.length_append, List.length_take, List.length_drop]; simp; omega), hdr]
        simp only [putI, if_neg h1, if_neg h2]
        simp
theorem l1Put_k (l : List Int) (v : Int) (hl : l.length ≤ 1000) (k : Nat) (hk : l.length < k) : spec_l1Put.f k l v = some (putI l v) := by
  unfold spec_l1Put.f
  have := l1Put_l0 l v hl l.length k 0 (by omega) hk
  simpa using this
/-- What slices.Compact leaves of a row that is sorted. -/
theorem compact_up (d : Array Int) (hs : ∀ j, 0 < j → j < d.size → d[j - 1]! ≤ d[j]!) : ∀ m, m ≤ d.size → (Lib.compactUpTo d m).Pairwise (· < ·) ∧ (∀ y, y ∈ Lib.compactUpTo d m ↔ ∃ j, j < m ∧ d[j]! = y) ∧ (∀ j, j < m → d[j]! ≤ d[m - 1]!) := by
  intro m
  induction m with
  | zero =>
    intro _
    refine ⟨by simp [Lib.compactUpTo], fun y => ?_, fun j hj => by omega⟩
    simp [Lib.compactUpTo]
  | succ m ih =>
    intro hm
    obtain ⟨i1, i2, i3⟩ := ih (by omega)
    have top : ∀ j, j < m → d[j]! ≤ d[m]! := fun j hj => Int.le_trans (i3 j hj) (hs m (by omega) (by omega))
    have top2 : ∀ j, j < m + 1 → d[j]! ≤ d[m + 1 - 1]! := by
      intro j hj
      rw [Nat.add_sub_cancel]
      by_cases e : j = m
      · rw [e]; exact Int.le_refl _
      · exact top j (by omega)
    rw [Lib.compactUpTo_succ]
    cases hk : Lib.keeps d m
    · have hk2 : ¬ (m = 0 ∨ d[m]! ≠ d[m - 1]!) := of_decide_eq_false hk
      have hm0 : m ≠ 0 := fun h => hk2 (.inl h)
      have he : d[m]! = d[m - 1]! := Classical.byContradiction fun h => hk2 (.inr h)
      simp only [Bool.false_eq_true, if_false, List.append_nil]
      refine ⟨i1, fun y => ?_, top2⟩
      rw [i2]
      constructor
      · rintro ⟨j, hj, h⟩
        exact ⟨j, by omega, h⟩
      · rintro ⟨j, hj, h⟩
        by_cases e : j = m
        · subst e
          exact ⟨j - 1, by omega, by rw [← he]; exact h⟩
        · exact ⟨j, by omega, h⟩
    · have hk2 : m = 0 ∨ d[m]! ≠ d[m - 1]! := of_decide_eq_true hk
      simp only [if_true]
      refine ⟨?_, fun y => ?_, top2⟩
      · rw [List.pairwise_append]
        refine ⟨i1, by simp, fun a ha b hb => ?_⟩
        obtain rfl := List.mem_singleton.1 hb
        obtain ⟨j, hj, rfl⟩ := (i2 a).1 ha
        rcases hk2 with h0 | hne
        · omega
        · have h1 := i3 j hj
          have h2 := hs m (by omega) (by omega)
          omega
      · rw [List.mem_append, i2, List.mem_singleton]
        constructor
        · rintro (⟨j, hj, h⟩ | h)
          · exact ⟨j, by omega, h⟩
          · exact ⟨m, by omega, h.symm⟩
        · rintro ⟨j, hj, h⟩
          by_cases e : j = m
          · subst e; exact .inr h.symm
          · exact .inl ⟨j, by omega, h⟩
def distinct (M : List Int) : List Int := Lib.compact (M.mergeSort fun x y => decide (x ≤ y))
theorem distinct_up (M : List Int) : (distinct M).Pairwise (· < ·) ∧ ∀ y, y ∈ distinct M ↔ y ∈ M := by
  have hp : (M.mergeSort fun x y => decide (x ≤ y)).Pairwise (fun a b => decide (a ≤ b) = true) := List.pairwise_mergeSort (fun a b c h1 h2 => by simp only [decide_eq_true_eq] at *; omega) (fun a b => by simp only [Bool.or_eq_true, decide_eq_true_eq]; omega) M
  have hm : ∀ y, y ∈ (M.mergeSort fun x y => decide (x ≤ y)) ↔ y ∈ M := fun y => List.mem_mergeSort
  unfold distinct Lib.compact
  generalize (M.mergeSort fun x y => decide (x ≤ y)) = S at hp hm
  have gt : ∀ j (hj : j < S.length), S.toArray[j]! = S[j] := fun j hj => by rw [getElem!_pos S.toArray j (by simpa using hj)]; rfl
  obtain ⟨a, b, _⟩ := compact_up S.toArray (fun j h0 hj => by
    have hj' : j < S.length := by simpa using hj
    rw [gt j hj', gt (j - 1) (by omega)]
    have := List.pairwise_iff_getElem.1 hp (j - 1) j (by omega) hj' (by omega)
    simpa using this) S.length (by simp)
  refine ⟨a, fun y => ?_⟩
  rw [b, ← hm]
  constructor
  · rintro ⟨j, hj, h⟩
    rw [gt j hj] at h
    rw [← h]
    exact List.getElem_mem _
  · intro h
    obtain ⟨j, hj, h⟩ := List.mem_iff_getElem.1 h
    exact ⟨j, hj, by rw [gt j hj]; exact h⟩
/-- Two rising lists with the same numbers are one. -/
theorem rising_one : ∀ a b : List Int, a.Pairwise (· < ·) → b.Pairwise (· < ·) → (∀ y, y ∈ a ↔ y ∈ b) → a = b
  | [], [], _, _, _ => rfl
  | [], y :: b, _, _, h => absurd ((h y).2 List.mem_cons_self) (by simp)
  | x :: a, [], _, _, h => absurd ((h x).1 List.mem_cons_self) (by simp)
  | x :: a, y :: b, ha, hb, h => by
    obtain ⟨a1, a2⟩ := List.pairwise_cons.1 ha
    obtain ⟨b1, b2⟩ := List.pairwise_cons.1 hb
    have e : x = y := by
      rcases List.mem_cons.1 ((h x).1 List.mem_cons_self) with e | hx
      · exact e
      · rcases List.mem_cons.1 ((h y).2 List.mem_cons_self) with e | hy
        · exact e.symm
        · have := b1 x hx
          have := a1 y hy
          omega
    subst e
    congr 1
    refine rising_one a b a2 b2 (fun z => ?_)
    have hz := h z
    rw [List.mem_cons, List.mem_cons] at hz
    constructor
    · intro hza
      rcases hz.1 (.inr hza) with e | h
      · have := a1 z hza; omega
      · exact h
    · intro hzb
      rcases hz.2 (.inr hzb) with e | h
      · have := b1 z hzb; omega
      · exact h
/-- A row that is another, and lies in x. -/
def stP (x v : Int) : Bool := decide (v ≠ x) && decide (Go.bits .andNot .i64 v x = 0)
def hiN (M : List Int) (x : Int) : Nat := ((distinct M).filter (stP x)).length
def putF (x : Int) : List Int → List Int → List Int
  | a, [] => a
  | a, v :: l => putF x (if stP x v = true then putI a v else a) l
theorem putF_all (x : Int) : ∀ (l a : List Int), a.Pairwise (· < ·) → (putF x a l).Pairwise (· < ·) ∧ ∀ y, y ∈ putF x a l ↔ y ∈ a ∨ (y ∈ l ∧ stP x y = true)
  | [], a, h => ⟨h, fun y => by simp [putF]⟩
  | v :: l, a, h => by
    simp only [putF]
    by_cases hv : stP x v = true
    · rw [if_pos hv]
      obtain ⟨q1, q2⟩ := putF_all x l (putI a v) (putI_up v a h)
      refine ⟨q1, fun y => ?_⟩
      rw [q2, mem_putI, List.mem_cons]
      constructor
      · rintro ((rfl | h) | ⟨h, h'⟩)
        · exact .inr ⟨.inl rfl, hv⟩
        · exact .inl h
        · exact .inr ⟨.inr h, h'⟩
      · rintro (h | ⟨rfl | h, h'⟩)
        · exact .inl (.inr h)
        · exact .inl (.inl rfl)
        · exact .inr ⟨h, h'⟩
    · rw [if_neg hv]
      obtain ⟨q1, q2⟩ := putF_all x l a h
      refine ⟨q1, fun y => ?_⟩
      rw [q2, List.mem_cons]
      constructor
      · rintro (h | ⟨h, h'⟩)
        · exact .inl h
        · exact .inr ⟨.inr h, h'⟩
      · rintro (h | ⟨rfl | h, h'⟩)
        · exact .inl h
        · exact absurd h' hv
        · exact .inr ⟨h, h'⟩
theorem putF_hi (M : List Int) (x : Int) : (putF x [] M).length = hiN M x := by
  obtain ⟨a1, a2⟩ := putF_all x M [] List.Pairwise.nil
  obtain ⟨b1, b2⟩ := distinct_up M
  unfold hiN
  rw [rising_one _ ((distinct M).filter (stP x)) a1 (b1.filter _) (fun y => by rw [a2, List.mem_filter, b2]; simp)]
def mxI (a b : Int) : Int := if a > b then a else b
def mxL (H : List Int) : Int := H.foldl mxI 0
theorem mxL_snoc (H : List Int) (n : Int) : mxL (H ++ [n]) = mxI (mxL H) n := by simp [mxL, List.foldl_append]
theorem mxL_b (b : Int) : ∀ (H : List Int), (∀ x ∈ H, x ≤ b) → ∀ a : Int, 0 ≤ a → a ≤ b → 0 ≤ H.foldl mxI a ∧ H.foldl mxI a ≤ b
  | [], _, a, h0, h1 => ⟨h0, h1⟩
  | x :: H, h, a, h0, h1 => by
    have hx := h x List.mem_cons_self
    rw [List.foldl_cons]
    refine mxL_b b H (fun y hy => h y (List.mem_cons_of_mem _ hy)) _ ?_ ?_
    · unfold mxI; split <;> omega
    · unfold mxI; split <;> omega
theorem maxOf_mxL (H : List Int) (h0 : ∀ x ∈ H, 0 ≤ x) : Lib.maxOf H = mxL H := by
  have e : mxI = (max : Int → Int → Int) := by
    funext a b
    unfold mxI
    split <;> omega
  unfold Lib.maxOf mxL
  rw [e]
  cases H with
  | nil => rfl
  | cons x H =>
    have := h0 x List.mem_cons_self
    simp only [List.headD_cons, List.foldl_cons]
    rw [show max x x = x by omega, show max (0 : Int) x = x by omega]
/-- The numbers of the rows. -/
def highs (M : List Int) (i : Nat) : List Int := (M.take i).map fun x => ((hiN M x : Nat) : Int)
theorem highs_succ (M : List Int) (i : Nat) (hi : i < M.length) : highs M (i + 1) = highs M i ++ [((hiN M (M[i]) : Nat) : Int)] := by
  unfold highs
  rw [List.take_add_one, List.getElem?_eq_getElem hi, Option.toList_some, List.map_append]
  rfl
theorem highs_len (M : List Int) (i : Nat) : (highs M i).length ≤ M.length := by simp [highs]; omega
theorem distinct_len (M : List Int) : (distinct M).length ≤ M.length := by
  unfold distinct Lib.compact Lib.compactUpTo
  rw [List.length_map]
  exact Nat.le_trans (List.length_filter_le _ _) (by simp)
theorem hiN_le (M : List Int) (x : Int) : hiN M x ≤ M.length := Nat.le_trans (List.length_filter_le _ _) (distinct_len M)
def lowF (ms : List Nat) (H : List Int) (c : Nat) : Nat → Nat → Int → Int
  | _, 0, a => a
  | i, d + 1, a => lowF ms H c (i + 1) d (if (ms.getD i 0).testBit c = true then (if a < H.getD i 0 then a else H.getD i 0) else a)
def lows (ms : List Nat) (H : List Int) (m : Int) (c : Nat) : List Int := (List.range c).map fun j => lowF ms H j 0 ms.length m
theorem lows_succ (ms : List Nat) (H : List Int) (m : Int) (c : Nat) : lows ms H m (c + 1) = lows ms H m c ++ [lowF ms H c 0 ms.length m] := by simp [lows, List.range_succ]
theorem lows_len (ms : List Nat) (H : List Int) (m : Int) (c : Nat) : (lows ms H m c).length = c := by simp [lows]
/-- The reference: a row's number. -/
theorem sp_in (M : List Int) (hM : M.length ≤ 6) (x5 : Int) (H : List Int) (hH : H.length ≤ 100) (x : Int) (i : Nat) (hi : i < 100) (R C : Int) (fin : Option (List Int × List Int × Bool)) (K0 : Nat) (L : List Int)
    (hfin : ∀ k, K0 < k → spec_ScalesOf.l0 k (mxI x5 (L.length : Int)) (H ++ [(L.length : Int)]) M (M.length : Int) ((i + 1 : Nat) : Int) R C M = fin) :
    ∀ (d k j : Nat) (a : List Int), j + d = M.length → a.length + d ≤ 6 → K0 + 20 + d < k → putF x a (M.drop j) = L → spec_ScalesOf.l1 k x5 H x a M (M.length : Int) (i : Int) M (M.length : Int) (j : Int) R C M = fin := by
  intro d
  induction d with
  | zero =>
    intro k j a hj ha hk hL
    obtain ⟨k, rfl⟩ : ∃ m, k = m + 1 := ⟨k - 1, by omega⟩
    have e : M.drop j = [] := List.drop_eq_nil_of_le (by omega)
    rw [e] at hL
    simp only [putF] at hL
    subst hL
    rw [spec_ScalesOf.l1, if_neg (by omega), if_pos (by omega)]
    unfold spec_l1Most.f
    have hf := hfin k (by omega)
    unfold mxI at hf
    rw [wrap_ok (by omega) (by omega), show ((i : Int) + 1) = ((i + 1 : Nat) : Int) by omega]
    by_cases hx : x5 > (a.length : Int)
    · rw [if_pos hx] at hf ⊢
      exact hf
    · rw [if_neg hx] at hf ⊢
      exact hf
  | succ d ih =>
    intro k j a hj ha hk hL
    obtain ⟨k, rfl⟩ : ∃ m, k = m + 1 := ⟨k - 1, by omega⟩
    have hjl : j < M.length := by omega
    have hrd : rd M (j : Int) = M[j] := by rw [rd_nat, List.getD_eq_getElem?_getD, List.getElem?_eq_getElem hjl]; rfl
    have hdr : M.drop j = M[j] :: M.drop (j + 1) := List.drop_eq_getElem_cons hjl
    rw [hdr] at hL
    simp only [putF] at hL
    rw [spec_ScalesOf.l1, if_pos (by omega), if_pos (by omega), if_pos (by omega), hrd, wrap_ok (by omega) (by omega), show ((j : Int) + 1) = ((j + 1 : Nat) : Int) by omega]
    by_cases h1 : M[j] = x
    · have hs : stP x M[j] = false := by unfold stP; rw [decide_eq_false (not_not_intro h1)]; rfl
      rw [hs] at hL
      rw [if_pos h1]
      exact ih k (j + 1) a (by omega) (by omega) (by omega) (by simpa using hL)
    · rw [if_neg h1]
      by_cases h2 : Go.bits .andNot .i64 M[j] x = 0
      · have hs : stP x M[j] = true := by unfold stP; rw [decide_eq_true h1, decide_eq_true h2]; rfl
        rw [hs, if_pos rfl] at hL
        have := putI_len M[j] a
        rw [if_pos h2, l1Put_k a _ (by omega) k (by omega)]
        exact ih k (j + 1) (putI a M[j]) (by omega) (by omega) (by omega) hL
      · have hs : stP x M[j] = false := by unfold stP; rw [decide_eq_false h2, Bool.and_false]
        rw [hs] at hL
        rw [if_neg h2]
        exact ih k (j + 1) a (by omega) (by omega) (by omega) (by simpa using hL)
theorem sp_out (M : List Int) (hM : M.length ≤ 6) (R C : Int) (fin : Option (List Int × List Int × Bool)) (K0 : Nat)
    (hfin : ∀ k, K0 < k → spec_ScalesOf.l2 k (mxL (highs M M.length)) (highs M M.length) [] 0 R C M = fin) :
    ∀ (d k i : Nat), i + d = M.length → K0 + d * 40 + 1 < k → spec_ScalesOf.l0 k (mxL (highs M i)) (highs M i) M (M.length : Int) (i : Int) R C M = fin := by
  intro d
  induction d with
  | zero =>
    intro k i hi hk
    obtain ⟨k, rfl⟩ : ∃ m, k = m + 1 := ⟨k - 1, by omega⟩
    have e : i = M.length := by omega
    subst e
    rw [spec_ScalesOf.l0, if_neg (by omega)]
    exact hfin k (by omega)
  | succ d ih =>
    intro k i hi hk
    obtain ⟨k, rfl⟩ : ∃ m, k = m + 1 := ⟨k - 1, by omega⟩
    have hil : i < M.length := by omega
    have hrd : rd M (i : Int) = M[i] := by rw [rd_nat, List.getD_eq_getElem?_getD, List.getElem?_eq_getElem hil]; rfl
    rw [spec_ScalesOf.l0, if_pos (by omega), if_pos (by omega), if_pos (by omega), hrd]
    have hh := highs_len M i
    have := sp_in M hM (mxL (highs M i)) (highs M i) (by omega) M[i] i (by omega) R C fin (K0 + d * 40 + 1) (putF M[i] [] M) (fun k hk => by
      rw [putF_hi, ← mxL_snoc, ← highs_succ M i hil]
      exact ih k (i + 1) (by omega) hk) M.length k 0 [] (by omega) (by simp; omega) (by omega) (by simp)
    exact this
theorem sp_l3 (ms : List Nat) (hm : ms.length ≤ 6) (h64 : ∀ x ∈ ms, x < 64) (H : List Int) (hH : H.length = ms.length) (x5 : Int) (out : List Int) (ho : out.length ≤ 100) (c : Nat) (hc : c < 60) (R C : Int) (fin : Option (List Int × List Int × Bool)) (K0 : Nat) (L : Int)
    (hfin : ∀ k, K0 < k → spec_ScalesOf.l2 k x5 H (out ++ [L]) ((c + 1 : Nat) : Int) R C (asInts ms) = fin) :
    ∀ (d k i : Nat) (a : Int), i + d = ms.length → K0 + 2 + d < k → lowF ms H c i d a = L → spec_ScalesOf.l3 k x5 H out (c : Int) a (asInts ms) (ms.length : Int) (i : Int) R C (asInts ms) = fin := by
  intro d
  induction d with
  | zero =>
    intro k i a hi hk hL
    obtain ⟨k, rfl⟩ : ∃ m, k = m + 1 := ⟨k - 1, by omega⟩
    simp only [lowF] at hL
    subst hL
    rw [spec_ScalesOf.l3, if_neg (by omega), if_pos (by omega), wrap_ok (by omega) (by omega), show ((c : Int) + 1) = ((c + 1 : Nat) : Int) by omega]
    exact hfin k (by omega)
  | succ d ih =>
    intro k i a hi hk hL
    obtain ⟨k, rfl⟩ : ∃ m, k = m + 1 := ⟨k - 1, by omega⟩
    have l1 : ((asInts ms).length : Int) = (ms.length : Int) := by simp
    have b1 := getD_lt (b := 64) (by omega) h64 i
    simp only [lowF] at hL
    have next := ih k (i + 1) _ (by omega) (by omega) hL
    rw [spec_ScalesOf.l3, if_pos (by omega), if_pos (by omega), if_pos (by omega), rd_map, orHas_k _ c (by omega), wrap_ok (by omega) (by omega), show ((i : Int) + 1) = ((i + 1 : Nat) : Int) by omega]
    simp only [Option.bind_some]
    by_cases hb : (ms.getD i 0).testBit c = true
    · rw [if_pos hb] at next ⊢
      rw [if_pos (by omega), rd_nat]
      unfold spec_l1Least.f
      by_cases ha : a < H.getD i 0
      · rw [if_pos ha] at next ⊢
        exact next
      · rw [if_neg ha] at next ⊢
        exact next
    · rw [if_neg hb] at next ⊢
      exact next
theorem sp_l2 (ms : List Nat) (hm : ms.length ≤ 6) (h64 : ∀ x ∈ ms, x < 64) (H : List Int) (hH : H.length = ms.length) (x5 : Int) (hx0 : 0 ≤ x5) (hx1 : x5 ≤ 100) (R : Int) (C : Nat) (hC : C ≤ 6) :
    ∀ (d k c : Nat), c + d = C → 20 + d * 20 < k → spec_ScalesOf.l2 k x5 H (lows ms H (x5 + 1) c) (c : Int) R (C : Int) (asInts ms) = some (H, lows ms H (x5 + 1) C, true) := by
  intro d
  induction d with
  | zero =>
    intro k c hc hk
    obtain ⟨k, rfl⟩ : ∃ m, k = m + 1 := ⟨k - 1, by omega⟩
    have e : c = C := by omega
    subst e
    rw [spec_ScalesOf.l2, if_neg (by omega)]
  | succ d ih =>
    intro k c hc hk
    obtain ⟨k, rfl⟩ : ∃ m, k = m + 1 := ⟨k - 1, by omega⟩
    have l1 : ((asInts ms).length : Int) = (ms.length : Int) := by simp
    rw [spec_ScalesOf.l2, if_pos (by omega), wrap_ok (x := x5 + 1) (by omega) (by omega), l1]
    refine sp_l3 ms hm h64 H hH x5 (lows ms H (x5 + 1) c) (by rw [lows_len]; omega) c (by omega) R (C : Int) _ (20 + d * 20) _ (fun k hk => ?_) ms.length k 0 (x5 + 1) (by omega) (by omega) rfl
    rw [← lows_succ]
    exact ih k (c + 1) (by omega) hk
/-- What the table tells, in numbers. -/
def scalesN (ms : List Nat) (C : Nat) : List Int × List Int × Bool := (highs (asInts ms) ms.length, lows ms (highs (asInts ms) ms.length) (mxL (highs (asInts ms) ms.length) + 1) C, true)
theorem highs_b (ms : List Nat) (hm : ms.length ≤ 6) : 0 ≤ mxL (highs (asInts ms) ms.length) ∧ mxL (highs (asInts ms) ms.length) ≤ 6 := by
  refine mxL_b 6 _ (fun x hx => ?_) 0 (by omega) (by omega)
  obtain ⟨v, _, rfl⟩ := List.mem_map.1 hx
  have := hiN_le (asInts ms) v
  simp only [List.length_map] at this
  omega
theorem highs_full (ms : List Nat) : (highs (asInts ms) ms.length).length = ms.length := by simp [highs]
theorem spScales_k (R : Int) (C : Nat) (hC : C ≤ 6) (ms : List Nat) (hm : ms.length ≤ 6) (h64 : ∀ x ∈ ms, x < 64) (k : Nat) (hk : 600 < k) : spec_ScalesOf.j0 k false R (C : Int) (asInts ms) = some (scalesN ms C) := by
  obtain ⟨k, rfl⟩ : ∃ m, k = m + 1 := ⟨k - 1, by omega⟩
  obtain ⟨b0, b1⟩ := highs_b ms hm
  have l1 : (asInts ms).length = ms.length := by simp
  rw [spec_ScalesOf.j0, if_neg (by simp)]
  refine sp_out (asInts ms) (by omega) R (C : Int) _ 200 (fun k hk => ?_) ms.length k 0 (by simp) (by omega)
  rw [l1]
  exact sp_l2 ms hm h64 _ (highs_full ms) _ b0 (by omega) R C hC C k 0 (by omega) (by omega)
/-- The program's count. -/
theorem im_in (M D : List Int) (hD : distinct M = D) (hDl : D.length ≤ 6) (H : List Int) (hH : H.length ≤ 100) (x : Int) (i : Nat) (hi : i < 100) (R C : Int) (fin : Option (List Int × List Int × Bool)) (K0 : Nat) (L : Nat)
    (hfin : ∀ k, K0 < k → impl_ScalesOf.l0 k (H ++ [(L : Int)]) [] M (M.length : Int) ((i + 1 : Nat) : Int) R C M = fin) :
    ∀ (d k j n : Nat), j + d = D.length → n ≤ 100 - d → K0 + 2 + d < k → n + ((D.drop j).filter (stP x)).length = L → impl_ScalesOf.l1 k H [] x (n : Int) M (M.length : Int) (i : Int) D (D.length : Int) (j : Int) R C M = fin := by
  intro d
  induction d with
  | zero =>
    intro k j n hj hn hk hL
    obtain ⟨k, rfl⟩ : ∃ m, k = m + 1 := ⟨k - 1, by omega⟩
    have e : D.drop j = [] := List.drop_eq_nil_of_le (by omega)
    rw [e] at hL
    have e2 : n = L := by simpa using hL
    subst e2
    rw [impl_ScalesOf.l1, if_neg (by omega), if_pos (by omega), wrap_ok (by omega) (by omega), show ((i : Int) + 1) = ((i + 1 : Nat) : Int) by omega]
    exact hfin k (by omega)
  | succ d ih =>
    intro k j n hj hn hk hL
    obtain ⟨k, rfl⟩ : ∃ m, k = m + 1 := ⟨k - 1, by omega⟩
    have hjl : j < D.length := by omega
    have hrd : rd D (j : Int) = D[j] := by rw [rd_nat, List.getD_eq_getElem?_getD, List.getElem?_eq_getElem hjl]; rfl
    have hdr : D.drop j = D[j] :: D.drop (j + 1) := List.drop_eq_getElem_cons hjl
    rw [hdr, List.filter_cons] at hL
    rw [impl_ScalesOf.l1, if_pos (by omega), if_pos (by omega), if_pos (by omega), hrd, wrap_ok (x := (j : Int) + 1) (by omega) (by omega), show ((j : Int) + 1) = ((j + 1 : Nat) : Int) by omega]
    by_cases h1 : D[j] = x
    · have hs : stP x D[j] = false := by unfold stP; rw [decide_eq_false (not_not_intro h1)]; rfl
      rw [hs] at hL
      rw [if_pos h1]
      exact ih k (j + 1) n (by omega) (by omega) (by omega) (by simpa using hL)
    · rw [if_neg h1]
      by_cases h2 : Go.bits .andNot .i64 D[j] x = 0
      · have hs : stP x D[j] = true := by unfold stP; rw [decide_eq_true h1, decide_eq_true h2]; rfl
        rw [hs, if_pos rfl, List.length_cons] at hL
        rw [if_pos h2, wrap_ok (by omega) (by omega), show ((n : Int) + 1) = ((n + 1 : Nat) : Int) by omega]
        exact ih k (j + 1) (n + 1) (by omega) (by omega) (by omega) (by omega)
      · have hs : stP x D[j] = false := by unfold stP; rw [decide_eq_false h2, Bool.and_false]
        rw [hs] at hL
        rw [if_neg h2]
        exact ih k (j + 1) n (by omega) (by omega) (by omega) (by simpa using hL)
theorem im_out (M : List Int) (hM : M.length ≤ 6) (R C : Int) (fin : Option (List Int × List Int × Bool)) (K0 : Nat)
    (hfin : ∀ k, K0 < k → impl_ScalesOf.l2 k (highs M M.length) [] C 0 R C M = fin) :
    ∀ (d k i : Nat), i + d = M.length → K0 + d * 40 + 1 < k → impl_ScalesOf.l0 k (highs M i) [] M (M.length : Int) (i : Int) R C M = fin := by
  intro d
  induction d with
  | zero =>
    intro k i hi hk
    obtain ⟨k, rfl⟩ : ∃ m, k = m + 1 := ⟨k - 1, by omega⟩
    have e : i = M.length := by omega
    subst e
    rw [impl_ScalesOf.l0, if_neg (by omega)]
    exact hfin k (by omega)
  | succ d ih =>
    intro k i hi hk
    obtain ⟨k, rfl⟩ : ∃ m, k = m + 1 := ⟨k - 1, by omega⟩
    have hil : i < M.length := by omega
    have hrd : rd M (i : Int) = M[i] := by rw [rd_nat, List.getD_eq_getElem?_getD, List.getElem?_eq_getElem hil]; rfl
    have hdl := distinct_len M
    have hd : impl_different.f M = some (distinct M) := by unfold impl_different.f; rw [if_pos (by omega)]; rfl
    rw [impl_ScalesOf.l0, if_pos (by omega), if_pos (by omega), if_pos (by omega), hrd, hd]
    simp only [Option.bind_some]
    have hh := highs_len M i
    have := im_in M (distinct M) rfl (by omega) (highs M i) (by omega) M[i] i (by omega) R C fin (K0 + d * 40 + 1) (hiN M M[i]) (fun k hk => by
      rw [← highs_succ M i hil]
      exact ih k (i + 1) (by omega) hk) (distinct M).length k 0 0 (by omega) (by omega) (by omega) (by simp [hiN])
    exact this
theorem im_l3 (ms : List Nat) (hm : ms.length ≤ 6) (h64 : ∀ x ∈ ms, x < 64) (H : List Int) (hH : H.length = ms.length) (out : List Int) (ho : out.length ≤ 100) (c : Nat) (hc : c < 60) (C' : Int) (R C : Int) (fin : Option (List Int × List Int × Bool)) (K0 : Nat) (L : Int)
    (hfin : ∀ k, K0 < k → impl_ScalesOf.l2 k H (out ++ [L]) C' ((c + 1 : Nat) : Int) R C (asInts ms) = fin) :
    ∀ (d k i : Nat) (a : Int), i + d = ms.length → K0 + 2 + d < k → lowF ms H c i d a = L → impl_ScalesOf.l3 k H out (c : Int) a C' (c : Int) H (H.length : Int) (i : Int) R C (asInts ms) = fin := by
  intro d
  induction d with
  | zero =>
    intro k i a hi hk hL
    obtain ⟨k, rfl⟩ : ∃ m, k = m + 1 := ⟨k - 1, by omega⟩
    simp only [lowF] at hL
    subst hL
    rw [impl_ScalesOf.l3, if_neg (by omega), if_pos (by omega), wrap_ok (by omega) (by omega), show ((c : Int) + 1) = ((c + 1 : Nat) : Int) by omega]
    exact hfin k (by omega)
  | succ d ih =>
    intro k i a hi hk hL
    obtain ⟨k, rfl⟩ : ∃ m, k = m + 1 := ⟨k - 1, by omega⟩
    have b1 := getD_lt (b := 64) (by omega) h64 i
    simp only [lowF] at hL
    have next := ih k (i + 1) _ (by omega) (by omega) hL
    have hmk : mk ms i c = (ms.getD i 0).testBit c := rfl
    rw [impl_ScalesOf.l3, if_pos (by omega), if_pos (by omega), if_pos (by omega), marked_k R C ms i c h64 (by omega) hc, wrap_ok (by omega) (by omega), show ((i : Int) + 1) = ((i + 1 : Nat) : Int) by omega]
    simp only [Option.bind_some]
    rw [hmk]
    by_cases hb : (ms.getD i 0).testBit c = true
    · rw [if_pos hb] at next ⊢
      rw [rd_nat]
      have em : mn a (H.getD i 0) = if a < H.getD i 0 then a else H.getD i 0 := by
        unfold mn
        split <;> split <;> omega
      rw [em]
      exact next
    · rw [if_neg hb] at next ⊢
      exact next
theorem im_l2 (ms : List Nat) (hm : ms.length ≤ 6) (hm1 : 1 ≤ ms.length) (h64 : ∀ x ∈ ms, x < 64) (R : Int) (C : Nat) (hC : C ≤ 6) :
    ∀ (d k c : Nat), c + d = C → 20 + d * 20 < k → impl_ScalesOf.l2 k (highs (asInts ms) ms.length) (lows ms (highs (asInts ms) ms.length) (mxL (highs (asInts ms) ms.length) + 1) c) (C : Int) (c : Int) R (C : Int) (asInts ms) = some (scalesN ms C) := by
  obtain ⟨b0, b1⟩ := highs_b ms hm
  have hf := highs_full ms
  have hmax : slices_Max_int_int.f (highs (asInts ms) ms.length) = some (mxL (highs (asInts ms) ms.length)) := by
    unfold slices_Max_int_int.f
    rw [if_pos (by omega), maxOf_mxL _ (fun x hx => by
      obtain ⟨v, _, rfl⟩ := List.mem_map.1 hx
      exact Int.natCast_nonneg _)]
  intro d
  induction d with
  | zero =>
    intro k c hc hk
    obtain ⟨k, rfl⟩ : ∃ m, k = m + 1 := ⟨k - 1, by omega⟩
    have e : c = C := by omega
    subst e
    rw [impl_ScalesOf.l2, if_neg (by omega)]
    rfl
  | succ d ih =>
    intro k c hc hk
    obtain ⟨k, rfl⟩ : ∃ m, k = m + 1 := ⟨k - 1, by omega⟩
    rw [impl_ScalesOf.l2, if_pos (by omega), hmax]
    simp only [Option.bind_some]
    rw [wrap_ok (x := mxL (highs (asInts ms) ms.length) + 1) (by omega) (by omega)]
    refine im_l3 ms hm h64 _ hf (lows ms (highs (asInts ms) ms.length) (mxL (highs (asInts ms) ms.length) + 1) c) (by rw [lows_len]; omega) c (by omega) (C : Int) R (C : Int) _ (20 + d * 20) _ (fun k hk => ?_) ms.length k 0 _ (by omega) (by omega) rfl
    rw [← lows_succ]
    exact ih k (c + 1) (by omega) hk
theorem imScales_k (R C : Nat) (hC : C ≤ 6) (ms : List Nat) (hm : ms.length ≤ 6) (hm1 : 1 ≤ ms.length) (h64 : ∀ x ∈ ms, x < 64) (k : Nat) (hk : 600 < k) : impl_ScalesOf.j0 k false (R : Int) (C : Int) (asInts ms) = some (scalesN ms C) := by
  obtain ⟨k, rfl⟩ : ∃ m, k = m + 1 := ⟨k - 1, by omega⟩
  have l1 : (asInts ms).length = ms.length := by simp
  rw [impl_ScalesOf.j0, if_neg (by simp)]
  refine im_out (asInts ms) (by omega) (R : Int) (C : Int) _ 200 (fun k hk => ?_) ms.length k 0 (by simp) (by omega)
  rw [l1]
  exact im_l2 ms hm hm1 h64 (R : Int) C hC C k 0 (by omega) (by omega)

theorem FnExactScalesOf : laws_FnExactScalesOf.Pure := by
  intro R C M _ _ hm _
  by_cases h : M.length ≤ 1048576
  · refine ⟨M.length + 6000, ?_⟩
    have H : ∃ y z b, y.length ≤ 6 ∧ z.length ≤ 6 ∧ (∀ k, M.length + 5500 < k → impl_ScalesOf.f k R C M = some (y, z, b)) ∧ (∀ k, M.length + 5500 < k → spec_ScalesOf.f k R C M = some (y, z, b)) := by
      cases hT : isTab R C M
      · refine ⟨[], [], false, by simp, by simp, fun k hk => ?_, fun k hk => ?_⟩
        · unfold impl_ScalesOf.f
          rw [IsTable_k R C M (by omega) k (by omega), hT]
          obtain ⟨k, rfl⟩ : ∃ m, k = m + 1 := ⟨k - 1, by omega⟩
          simp only [Option.bind_some, Bool.false_eq_true, if_false]
          rw [impl_ScalesOf.j0, if_pos rfl]
        · unfold spec_ScalesOf.f
          rw [feGood_k R C M (by omega) k (by omega), hT]
          obtain ⟨k, rfl⟩ : ∃ m, k = m + 1 := ⟨k - 1, by omega⟩
          simp only [Option.bind_some, Bool.false_eq_true, if_false]
          rw [spec_ScalesOf.j0, if_pos rfl]
      · obtain ⟨r, c, ms, rfl, rfl, rfl, h1, h2, h3, h4, h5, h6⟩ := (isTab_iff R C M).1 hT
        have h64 : ∀ x ∈ ms, x < 64 := fun x hx => Nat.lt_of_lt_of_le (h6 x hx) (Nat.pow_le_pow_right (n := 2) (by omega) h4)
        have hfb := four_bio r c ms h5 h6
        cases h0 : four0 r c ms with
        | none =>
          refine ⟨(scalesN ms c).1, (scalesN ms c).2.1, (scalesN ms c).2.2, ?_, ?_, fun k hk => ?_, fun k hk => ?_⟩
          · show (highs (asInts ms) ms.length).length ≤ 6
            rw [highs_full]
            omega
          · show (lows ms _ _ c).length ≤ 6
            rw [lows_len]
            omega
          · unfold impl_ScalesOf.f
            rw [IsTable_k _ _ _ (by omega) k (by omega), hT]
            simp only [Option.bind_some, if_true]
            rw [fourCells_k r c ms h5 h2 h4 h64 k (by omega), h0]
            simp only [Option.bind_some, Option.getD_none, if_true]
            exact imScales_k r c h4 ms (by omega) (by omega) h64 k (by omega)
          · unfold spec_ScalesOf.f
            rw [feGood_k _ _ _ (by omega) k (by omega), hT]
            simp only [Option.bind_some, if_true]
            rw [feBiorder_k _ _ ms (by omega) h64 k (by omega), hfb.1 h0]
            simp only [Option.bind_some, Option.getD_none, Bool.not_true]
            exact spScales_k _ c h4 ms (by omega) h64 k (by omega)
        | some v =>
          have hv := four0_ne r c ms v h0
          refine ⟨[], [], false, by simp, by simp, fun k hk => ?_, fun k hk => ?_⟩
          · unfold impl_ScalesOf.f
            rw [IsTable_k _ _ _ (by omega) k (by omega), hT]
            simp only [Option.bind_some, if_true]
            rw [fourCells_k r c ms h5 h2 h4 h64 k (by omega), h0]
            obtain ⟨k, rfl⟩ : ∃ m, k = m + 1 := ⟨k - 1, by omega⟩
            simp only [Option.bind_some, Option.getD_some, if_neg hv]
            rw [impl_ScalesOf.j0, if_pos rfl]
          · unfold spec_ScalesOf.f
            rw [feGood_k _ _ _ (by omega) k (by omega), hT]
            simp only [Option.bind_some, if_true]
            rw [feBiorder_k _ _ ms (by omega) h64 k (by omega)]
            obtain ⟨k, rfl⟩ : ∃ m, k = m + 1 := ⟨k - 1, by omega⟩
            cases hb0 : bio0 ms with
            | none => rw [hfb.2 hb0] at h0; cases h0
            | some w =>
              rw [bio0_false ms w hb0]
              simp only [Option.bind_some, Option.getD_some, Bool.not_false]
              rw [spec_ScalesOf.j0, if_pos rfl]
    obtain ⟨y, z, b, hy, hz, hI, hS⟩ := H
    unfold laws_FnExactScalesOf.f
    rw [szTable_eq R C M hm, if_pos h]
    simp only [Option.bind_some]
    rw [if_neg (by omega)]
    repeat (first
      | (rw [toTable_k R C M h _ (by omega)]; simp only [Option.bind_some])
      | (rw [hS _ (by omega)]; simp only [Option.bind_some])
      | (rw [hI _ (by omega)]; simp only [Option.bind_some])
      | (rw [eqTable_k _ _ _ (by omega) _ (by omega)]; simp only [Option.bind_some])
      | (rw [eqIntS_k _ (by omega) _ (by omega)]; simp only [Option.bind_some])
      | (rw [markTable_k _ _ _ (by omega) _ (by omega)]; simp only [Option.bind_some])
      | (rw [markIntS_k _ _ (by omega) (by omega) _ (by omega)]; simp only [Option.bind_some])
      | (rw [heldIntS_k _ _ (by omega) (by omega) _ (by omega)]; simp only [Option.bind_some])
      | (simp only [if_true, Bool.false_eq_true, if_false, bne_self_eq_false, if_neg (one_add_nonneg _), if_pos rfl]; done)
      | (rw [if_neg (one_add_nonneg _)])
      | (rw [if_neg (by omega)])
      | (rw [laws_FnExactScalesOf.j0]; simp only [Bool.false_eq_true, if_false, if_true])
      | (rw [laws_FnExactScalesOf.j1]; simp only [Bool.false_eq_true, if_false, if_true])
      | (rw [laws_FnExactScalesOf.j2]; simp only [Bool.false_eq_true, if_false, if_true])
      | (simp only [if_true, Bool.false_eq_true, if_false, bne_self_eq_false]))
  · refine ⟨1, ?_⟩
    unfold laws_FnExactScalesOf.f
    rw [szTable_eq R C M hm, if_neg h]
    simp

end Go.Proofs.Ytakabmokpknknaa.Pure
