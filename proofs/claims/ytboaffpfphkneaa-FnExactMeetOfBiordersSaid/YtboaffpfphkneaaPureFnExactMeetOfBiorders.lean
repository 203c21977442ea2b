/- MeetOfBiorders: the program returns for every table the biorders that the reference returns; no condition. -/
import Derived.Test.YtboaffpfphkneaaPFnExactMeetOfBiordersx8
namespace Go.Proofs.Ytboaffpfphkneaa.Pure
open Go.RowKit Go.Proofs.Ytboaffpfphkneaa.PFnExactMeetOfBiorders Go.Proofs.YtboaffpfphkneaaW.PrintWords Go.Proofs.YtboaffpfphkneaaW.PrintLast Go.Proofs.YtboaffpfphkneaaW.PrintMore Go.Proofs.YtboaffpfphkneaaA
set_option linter.unusedVariables false
set_option linter.unusedSimpArgs false

theorem wrap_ok {x : Int} (h0 : -9223372036854775808 ≤ x) (h1 : x < 9223372036854775808) : wrap64 x = x := by unfold wrap64; omega
theorem wf_bounds {x : Int} (h : (Lit.int .i64 x).wf = true) : -9223372036854775808 ≤ x ∧ x < 9223372036854775808 := by
  have e : IntKind.i64.min ≤ x ∧ x ≤ 9223372036854775807 := by simpa [Lit.wf] using h
  have m : IntKind.i64.min = -9223372036854775808 := by decide
  omega
theorem rd_nat (l : List Int) (i : Nat) : rd l (i : Int) = l.getD i 0 := by simp [rd]

theorem toIntS_l0 (l : List Int) (hl : l.length ≤ 4611686018427387904) : ∀ (d k i : Nat) (x : List Int), i + d = l.length → d < k → x.length = l.length → (∀ j, j < i → x[j]? = l[j]?) → laws_toIntS.l0 k l x (i : Int) = some l := by
  intro d
  induction d with
  | zero =>
    intro k i x h hk hx hj
    obtain ⟨k, rfl⟩ : ∃ m, k = m + 1 := ⟨k - 1, by omega⟩
    simp only [laws_toIntS.l0]
    rw [if_neg (by omega)]
    congr 1
    apply List.ext_getElem?
    intro j
    by_cases hji : j < i
    · exact hj j hji
    · rw [List.getElem?_eq_none (by omega), List.getElem?_eq_none (by omega)]
  | succ d ih =>
    intro k i x h hk hx hj
    obtain ⟨k, rfl⟩ : ∃ m, k = m + 1 := ⟨k - 1, by omega⟩
    simp only [laws_toIntS.l0]
    rw [if_pos (by omega), if_pos (by omega), if_pos (by omega), wrap_ok (by omega) (by omega)]
    have e : ((i : Int) + 1) = ((i + 1 : Nat) : Int) := by omega
    rw [e]
    refine ih k (i + 1) _ (by omega) (by omega) (by simpa using hx) ?_
    intro j hji
    have e2 : (i : Int).toNat = i := by omega
    rw [e2, List.getElem?_set]
    by_cases hj2 : i = j
    · subst hj2
      rw [if_pos rfl, if_pos (by omega), rd_nat, List.getElem?_eq_getElem (by omega)]
      simp
      rw [List.getElem?_eq_getElem (by omega)]
      rfl
    · rw [if_neg hj2]
      exact hj j (by omega)
theorem toIntS_k (l : List Int) (hl : l.length ≤ 1048576) (k : Nat) (hk : l.length < k) : laws_toIntS.f k l = some l := by
  unfold laws_toIntS.f
  rw [if_pos (by omega), if_pos (by omega)]
  exact toIntS_l0 l (by omega) l.length k 0 _ (by omega) hk (by simp) (by intro j hj; omega)
theorem toIntS_ev (l : List Int) (hl : l.length ≤ 1048576) : Ev (fun k => laws_toIntS.f k l) l := ⟨l.length + 1, fun k hk => toIntS_k l hl k (by omega)⟩

theorem eqIntS_l0 (l : List Int) (hl : l.length ≤ 4611686018427387904) : ∀ (d k i : Nat), i + d = l.length → d < k → laws_eqIntS.l0 k l l (i : Int) = some true := by
  intro d
  induction d with
  | zero =>
    intro k i h hk
    obtain ⟨k, rfl⟩ : ∃ m, k = m + 1 := ⟨k - 1, by omega⟩
    simp only [laws_eqIntS.l0]
    rw [if_neg (by omega)]
  | succ d ih =>
    intro k i h hk
    obtain ⟨k, rfl⟩ : ∃ m, k = m + 1 := ⟨k - 1, by omega⟩
    simp only [laws_eqIntS.l0]
    rw [if_pos (by omega), if_pos (by omega), if_pos (by omega), if_true, wrap_ok (by omega) (by omega)]
    have e : ((i : Int) + 1) = ((i + 1 : Nat) : Int) := by omega
    rw [e]
    exact ih k (i + 1) (by omega) (by omega)
theorem eqIntS_k (l : List Int) (hl : l.length ≤ 4611686018427387904) (k : Nat) (hk : l.length < k) : laws_eqIntS.f k l l = some true := by
  unfold laws_eqIntS.f
  rw [if_pos rfl]
  exact eqIntS_l0 l hl l.length k 0 (by omega) hk
theorem eqIntS_ev (l : List Int) (hl : l.length ≤ 4611686018427387904) : Ev (fun k => laws_eqIntS.f k l l) true := ⟨l.length + 1, fun k hk => eqIntS_k l hl k (by omega)⟩

theorem within_eq (a b c : Int) : impl_within.f a b c = some (decide (b ≤ a ∧ a ≤ c)) := by
  unfold impl_within.f
  by_cases h : a ≥ b <;> simp [h] <;> omega
theorem l1In_eq (a b c : Int) : spec_l1In.f a b c = some (decide (b ≤ a ∧ a ≤ c)) := by
  unfold spec_l1In.f
  by_cases h : a ≥ b <;> simp [h] <;> omega

def allIn (l : List Int) (a b : Int) : Bool := l.all fun x => decide (a ≤ x ∧ x ≤ b)
theorem getD_drop (l : List Int) (i : Nat) (h : i < l.length) : l.drop i = l.getD i 0 :: l.drop (i + 1) := by
  rw [List.drop_eq_getElem_cons h]
  simp [h]
theorem allWithin_l0 (l : List Int) (a b : Int) (hl : l.length ≤ 4611686018427387904) : ∀ (d k i : Nat), i + d = l.length → d < k → impl_allWithin.l0 k a b l (l.length : Int) (i : Int) = some (allIn (l.drop i) a b) := by
  intro d
  induction d with
  | zero =>
    intro k i h hk
    obtain ⟨k, rfl⟩ : ∃ m, k = m + 1 := ⟨k - 1, by omega⟩
    simp only [impl_allWithin.l0]
    rw [if_neg (by omega), List.drop_eq_nil_of_le (by omega)]
    rfl
  | succ d ih =>
    intro k i h hk
    obtain ⟨k, rfl⟩ : ∃ m, k = m + 1 := ⟨k - 1, by omega⟩
    simp only [impl_allWithin.l0]
    rw [if_pos (by omega), if_pos (by omega), if_pos (by omega), wrap_ok (by omega) (by omega), within_eq, getD_drop l i (by omega), rd_nat]
    have e : ((i : Int) + 1) = ((i + 1 : Nat) : Int) := by omega
    rw [e, ih k (i + 1) (by omega) (by omega)]
    simp only [Option.bind_some, allIn, List.all_cons]
    cases decide (a ≤ l.getD i 0 ∧ l.getD i 0 ≤ b) <;> simp
theorem allWithin_k (l : List Int) (a b : Int) (hl : l.length ≤ 4611686018427387904) (k : Nat) (hk : l.length < k) : impl_allWithin.f k l a b = some (allIn l a b) := by
  unfold impl_allWithin.f
  exact allWithin_l0 l a b hl l.length k 0 (by omega) hk
theorem l1All_l0 (l : List Int) (a b : Int) (hl : l.length ≤ 4611686018427387904) : ∀ (d k i : Nat), i + d = l.length → d < k → spec_l1All.l0 k a b l (l.length : Int) (i : Int) = some (allIn (l.drop i) a b) := by
  intro d
  induction d with
  | zero =>
    intro k i h hk
    obtain ⟨k, rfl⟩ : ∃ m, k = m + 1 := ⟨k - 1, by omega⟩
    simp only [spec_l1All.l0]
    rw [if_neg (by omega), List.drop_eq_nil_of_le (by omega)]
    rfl
  | succ d ih =>
    intro k i h hk
    obtain ⟨k, rfl⟩ : ∃ m, k = m + 1 := ⟨k - 1, by omega⟩
    simp only [spec_l1All.l0]
    rw [if_pos (by omega), if_pos (by omega), if_pos (by omega), wrap_ok (by omega) (by omega), l1In_eq, getD_drop l i (by omega), rd_nat]
    have e : ((i : Int) + 1) = ((i + 1 : Nat) : Int) := by omega
    rw [e, ih k (i + 1) (by omega) (by omega)]
    simp only [Option.bind_some, allIn, List.all_cons]
    cases decide (a ≤ l.getD i 0 ∧ l.getD i 0 ≤ b) <;> simp
theorem l1All_k (l : List Int) (a b : Int) (hl : l.length ≤ 4611686018427387904) (k : Nat) (hk : l.length < k) : spec_l1All.f k l a b = some (allIn l a b) := by
  unfold spec_l1All.f
  exact l1All_l0 l a b hl l.length k 0 (by omega) hk

/-- A table, told as data. -/
def isTab (R C : Int) (M : List Int) : Bool := decide (1 ≤ R ∧ R ≤ 6) && decide (1 ≤ C ∧ C ≤ 6) && decide ((M.length : Int) = R) && allIn M 0 (wrap64 (shl .i64 1 C - 1))
theorem IsTable_k (R C : Int) (M : List Int) (hM : M.length ≤ 4611686018427387904) (k : Nat) (hk : M.length < k) : impl_IsTable.f k R C M = some (isTab R C M) := by
  unfold impl_IsTable.f isTab
  simp only [within_eq, Option.bind_some]
  by_cases h1 : 1 ≤ R ∧ R ≤ 6
  · by_cases h2 : 1 ≤ C ∧ C ≤ 6
    · by_cases h3 : (M.length : Int) = R
      · rw [if_pos h3, if_pos (show 0 ≤ C by omega), allWithin_k M _ _ hM k hk]
        simp [h1, h2, h3]
      · rw [if_neg h3]
        simp [h1, h2, h3]
    · simp [h1, h2]
  · simp [h1]
theorem feGood_k (R C : Int) (M : List Int) (hM : M.length ≤ 4611686018427387904) (k : Nat) (hk : M.length < k) : spec_feGood.f k R C M = some (isTab R C M) := by
  unfold spec_feGood.f isTab
  simp only [l1In_eq, Option.bind_some]
  by_cases h1 : 1 ≤ R ∧ R ≤ 6
  · by_cases h2 : 1 ≤ C ∧ C ≤ 6
    · by_cases h3 : (M.length : Int) = R
      · rw [if_pos h3, if_pos (show 0 ≤ C by omega), l1All_k M _ _ hM k hk]
        simp [h1, h2, h3]
      · rw [if_neg h3]
        simp [h1, h2, h3]
    · simp [h1, h2]
  · simp [h1]
theorem toTable_k (R C : Int) (M : List Int) (hM : M.length ≤ 1048576) (k : Nat) (hk : M.length < k) : laws_toTable.f k R C M = some (R, C, M) := by
  unfold laws_toTable.f
  rw [toIntS_k M hM k hk]
  rfl
theorem eqTable_k (R C : Int) (M : List Int) (hM : M.length ≤ 1048576) (k : Nat) (hk : M.length < k) : laws_eqTable.f k R C M R C M = some true := by
  unfold laws_eqTable.f
  rw [if_pos rfl, if_pos rfl, eqIntS_k M (by omega) k hk]
  rfl
theorem szTable_eq (R C : Int) (M : List Int) (hm : M.length ≤ maxLen) : laws_szTable.f R C M 1048576 = some (if M.length ≤ 1048576 then 1048576 - (M.length : Int) else -1) := by
  unfold maxLen at hm
  unfold laws_szTable.f laws_szIntS.f
  rw [wrap_ok (by omega) (by omega)]
  by_cases h : M.length ≤ 1048576
  · rw [if_neg (by omega), if_pos h]
    simp only [Option.bind_some]
    rw [if_neg (by omega)]
  · rw [if_pos (by omega), if_neg h]
    simp

/-! Sets as numbers. -/
def andn (a b : Nat) : Nat := a ^^^ (a &&& b)
theorem andn_bit (a b i : Nat) : (andn a b).testBit i = (a.testBit i && !b.testBit i) := by
  unfold andn
  rw [Nat.testBit_xor, Nat.testBit_and]
  cases a.testBit i <;> cases b.testBit i <;> rfl
theorem wrap_i64_nat (n : Nat) (h : n < 2 ^ 63) : IntKind.i64.wrap (n : Int) = (n : Int) := by
  rw [IntKind.wrap_i64]
  have : (n : Int) < 9223372036854775808 := by omega
  omega
theorem ofInt_toNat (n : Nat) (h : n < 2 ^ 63) : (BitVec.ofInt 64 (n : Int)).toNat = n := by
  rw [BitVec.ofInt_natCast, BitVec.toNat_ofNat, Nat.mod_eq_of_lt (by omega)]
theorem and_nat (a b : Nat) (ha : a < 2 ^ 63) (hb : b < 2 ^ 63) : Go.bits .and .i64 (a : Int) (b : Int) = ((a &&& b : Nat) : Int) := by
  unfold Go.bits
  show IntKind.i64.wrap ((BitVec.ofInt 64 (a : Int) &&& BitVec.ofInt 64 (b : Int)).toNat : Int) = _
  rw [BitVec.toNat_and, ofInt_toNat a ha, ofInt_toNat b hb]
  exact wrap_i64_nat _ (Nat.lt_of_le_of_lt Nat.and_le_left ha)
theorem or_nat (a b : Nat) (ha : a < 2 ^ 63) (hb : b < 2 ^ 63) : Go.bits .or .i64 (a : Int) (b : Int) = ((a ||| b : Nat) : Int) := by
  unfold Go.bits
  show IntKind.i64.wrap ((BitVec.ofInt 64 (a : Int) ||| BitVec.ofInt 64 (b : Int)).toNat : Int) = _
  rw [BitVec.toNat_or, ofInt_toNat a ha, ofInt_toNat b hb]
  exact wrap_i64_nat _ (Nat.or_lt_two_pow ha hb)
theorem xor_nat (a b : Nat) (ha : a < 2 ^ 63) (hb : b < 2 ^ 63) : Go.bits .xor .i64 (a : Int) (b : Int) = ((a ^^^ b : Nat) : Int) := by
  unfold Go.bits
  show IntKind.i64.wrap ((BitVec.ofInt 64 (a : Int) ^^^ BitVec.ofInt 64 (b : Int)).toNat : Int) = _
  rw [BitVec.toNat_xor, ofInt_toNat a ha, ofInt_toNat b hb]
  exact wrap_i64_nat _ (Nat.xor_lt_two_pow ha hb)
theorem andn_le (a b : Nat) : andn a b ≤ a := Nat.le_of_testBit fun i h => by
  rw [andn_bit] at h
  cases h1 : a.testBit i
  · simp [h1] at h
  · rfl
theorem andNot_nat (a b : Nat) (ha : a < 2 ^ 63) (hb : b < 2 ^ 63) : Go.bits .andNot .i64 (a : Int) (b : Int) = ((andn a b : Nat) : Int) := by
  unfold Go.bits
  show IntKind.i64.wrap ((BitVec.ofInt 64 (a : Int) &&& ~~~ BitVec.ofInt 64 (b : Int)).toNat : Int) = _
  have e : (BitVec.ofInt 64 (a : Int) &&& ~~~ BitVec.ofInt 64 (b : Int)).toNat = andn a b := by
    apply Nat.eq_of_testBit_eq
    intro i
    rw [andn_bit, BitVec.toNat_and, Nat.testBit_and, ofInt_toNat a ha, BitVec.testBit_toNat, BitVec.getLsbD_not, BitVec.ofInt_natCast, BitVec.getLsbD_ofNat]
    by_cases hi : i < 64
    · rw [decide_eq_true hi]
      simp only [Bool.true_and]
    · have : a.testBit i = false := Nat.testBit_lt_two_pow (Nat.lt_of_lt_of_le ha (Nat.pow_le_pow_right (by omega) (by omega)))
      simp [this]
  rw [e]
  exact wrap_i64_nat _ (Nat.lt_of_le_of_lt (andn_le a b) ha)
theorem andn_zero (a b : Nat) : andn a b = 0 ↔ ∀ i, a.testBit i = true → b.testBit i = true := by
  constructor
  · intro h i hi
    have := andn_bit a b i
    rw [h, hi] at this
    cases hb : b.testBit i
    · simp [hb] at this
    · rfl
  · intro h
    apply Nat.eq_of_testBit_eq
    intro i
    rw [andn_bit]
    cases ha : a.testBit i
    · simp
    · simp [h i ha]
theorem andn_zero_le {a b : Nat} (h : andn a b = 0) : a ≤ b := Nat.le_of_testBit fun i hi => (andn_zero a b).1 h i hi
theorem andNot_le {p i : Int} (h0 : 0 ≤ p) (h1 : 0 ≤ i) (hp : p < 9223372036854775808) (hi : i < 9223372036854775808) (h : Go.bits .andNot .i64 p i = 0) : p ≤ i := by
  obtain ⟨a, rfl⟩ := Int.eq_ofNat_of_zero_le h0
  obtain ⟨b, rfl⟩ := Int.eq_ofNat_of_zero_le h1
  rw [andNot_nat a b (by omega) (by omega)] at h
  have := andn_zero_le (a := a) (b := b) (by omega)
  omega

/-- The numbers a, a + 1, .. -/
def iota (a : Int) (n : Nat) : List Int := (List.range n).map fun (j : Nat) => a + (j : Int)
theorem iota_length (a : Int) (n : Nat) : (iota a n).length = n := by simp [iota]
theorem markIntS_l0 (a : Int) (h0 : 0 ≤ a) : ∀ (d k i : Nat) (l : List Int), i + d = l.length → d < k → a + l.length < 4611686018427387904 → (∀ j, j < i → l[j]? = some (a + (j : Int))) →
    laws_markIntS.l0 k l (a + (i : Int)) (i : Int) = some (a + (l.length : Int), iota a l.length) := by
  intro d
  induction d with
  | zero =>
    intro k i l h hk ha hj
    obtain ⟨k, rfl⟩ : ∃ m, k = m + 1 := ⟨k - 1, by omega⟩
    simp only [laws_markIntS.l0]
    rw [if_neg (by omega)]
    have e : i = l.length := by omega
    subst e
    have e2 : l = iota a l.length := by
      apply List.ext_getElem?
      intro j
      by_cases hj2 : j < l.length
      · rw [hj j hj2]
        simp [iota, hj2]
      · rw [List.getElem?_eq_none (by omega), List.getElem?_eq_none (by rw [iota_length]; omega)]
    rw [← e2]
  | succ d ih =>
    intro k i l h hk ha hj
    obtain ⟨k, rfl⟩ : ∃ m, k = m + 1 := ⟨k - 1, by omega⟩
    simp only [laws_markIntS.l0]
    rw [if_pos (by omega), if_pos (by omega), wrap_ok (by omega) (by omega), wrap_ok (by omega) (by omega)]
    have e1 : ((i : Int) + 1) = ((i + 1 : Nat) : Int) := by omega
    have e2 : (a + (i : Int) + 1) = a + ((i + 1 : Nat) : Int) := by omega
    have e3 : (i : Int).toNat = i := by omega
    rw [e1, e2, e3]
    have := ih k (i + 1) (l.set i (a + (i : Int))) (by simp; omega) (by omega) (by simpa using ha) (by
      intro j hji
      rw [List.getElem?_set]
      by_cases e : i = j
      · subst e
        rw [if_pos rfl, if_pos (by omega)]
      · rw [if_neg e]
        exact hj j (by omega))
    simpa using this
theorem markIntS_k (l : List Int) (a : Int) (h0 : 0 ≤ a) (ha : a + l.length < 4611686018427387904) (k : Nat) (hk : l.length < k) : laws_markIntS.f k l a = some (a + (l.length : Int), iota a l.length) := by
  unfold laws_markIntS.f
  have := markIntS_l0 a h0 l.length k 0 l (by omega) hk ha (by intro j hj; omega)
  simpa using this
theorem heldIntS_l0 (a : Int) (n : Nat) (h0 : 0 ≤ a) (ha : a + n < 4611686018427387904) : ∀ (d k i : Nat), i + d = n → d < k → laws_heldIntS.l0 k (iota a n) (a + (i : Int)) (i : Int) = some (a + (n : Int)) := by
  intro d
  induction d with
  | zero =>
    intro k i h hk
    obtain ⟨k, rfl⟩ : ∃ m, k = m + 1 := ⟨k - 1, by omega⟩
    simp only [laws_heldIntS.l0, iota_length]
    rw [if_neg (by omega)]
    congr 1
    omega
  | succ d ih =>
    intro k i h hk
    obtain ⟨k, rfl⟩ : ∃ m, k = m + 1 := ⟨k - 1, by omega⟩
    simp only [laws_heldIntS.l0, iota_length]
    have e4 : rd (iota a n) (i : Int) = a + (i : Int) := by
      rw [rd_nat]
      simp [iota, List.getD_eq_getElem?_getD, show i < n by omega]
    rw [if_pos (by omega), if_pos (by omega), if_pos e4, wrap_ok (by omega) (by omega), wrap_ok (by omega) (by omega)]
    have e1 : ((i : Int) + 1) = ((i + 1 : Nat) : Int) := by omega
    have e2 : (a + (i : Int) + 1) = a + ((i + 1 : Nat) : Int) := by omega
    rw [e1, e2]
    exact ih k (i + 1) (by omega) (by omega)
theorem heldIntS_k (a : Int) (n : Nat) (h0 : 0 ≤ a) (ha : a + n < 4611686018427387904) (k : Nat) (hk : n < k) : laws_heldIntS.f k (iota a n) a = some (a + (n : Int)) := by
  unfold laws_heldIntS.f
  have := heldIntS_l0 a n h0 ha n k 0 (by omega) hk
  simpa using this
theorem one_add_nonneg (m : Nat) : ¬ (1 + (m : Int) < 0) := by omega

/-- The set of the j < n for which q tells true. -/
def bitsum (q : Nat → Bool) : Nat → Nat
  | 0 => 0
  | j + 1 => bitsum q j ||| (if q j then 2 ^ j else 0)
theorem bitsum_lt (q : Nat → Bool) (n : Nat) : bitsum q n < 2 ^ n := by
  induction n with
  | zero => simp [bitsum]
  | succ n ih =>
    rw [bitsum]
    apply Nat.or_lt_two_pow
    · exact Nat.lt_of_lt_of_le ih (Nat.pow_le_pow_right (by omega) (by omega))
    · split
      · exact Nat.pow_lt_pow_right (by omega) (by omega)
      · exact Nat.two_pow_pos _
theorem bitsum_bit (q : Nat → Bool) (n i : Nat) : (bitsum q n).testBit i = (decide (i < n) && q i) := by
  induction n with
  | zero => simp [bitsum]
  | succ n ih =>
    rw [bitsum, Nat.testBit_or, ih]
    by_cases e : i = n
    · subst e
      cases h : q i <;> simp [Nat.testBit_two_pow_self]
    · have : (if q n then 2 ^ n else 0).testBit i = false := by
        split
        · rw [Nat.testBit_two_pow_of_ne (by omega)]
        · simp
      rw [this]
      by_cases h : i < n
      · simp [h, show i < n + 1 by omega]
      · simp [h, show ¬ i < n + 1 by omega]
theorem bitsum_congr {q q' : Nat → Bool} (n : Nat) (h : ∀ i, i < n → q i = q' i) : bitsum q n = bitsum q' n := by
  induction n with
  | zero => rfl
  | succ n ih => rw [bitsum, bitsum, ih (fun i hi => h i (by omega)), h n (by omega)]
theorem shl_one (j : Nat) (h : j < 62) : shl .i64 1 (j : Int) = ((2 ^ j : Nat) : Int) := by
  unfold shl
  have e : min (j : Int).toNat IntKind.i64.bits = j := by
    show min (j : Int).toNat 64 = j
    omega
  rw [e]
  have e2 : (1 : Int) * 2 ^ j = ((2 ^ j : Nat) : Int) := by simp
  rw [e2]
  exact wrap_i64_nat _ (Nat.pow_lt_pow_right (by omega) (by omega))
theorem or_shl (a j : Nat) (ha : a < 2 ^ 62) (hj : j < 62) : Go.bits .or .i64 (a : Int) (shl .i64 1 (j : Int)) = ((a ||| 2 ^ j : Nat) : Int) := by
  rw [shl_one j hj]
  exact or_nat a _ (Nat.lt_of_lt_of_le ha (by decide)) (Nat.pow_lt_pow_right (by omega) (by omega))
/-- The rows' sets. -/
def relList (R C : Nat) (p : Nat → Nat → Bool) : List Int := (List.range R).map fun i => ((bitsum (p i) C : Nat) : Int)
theorem relList_length (R C : Nat) (p : Nat → Nat → Bool) : (relList R C p).length = R := by simp [relList]
theorem relList_congr {R C : Nat} {p p' : Nat → Nat → Bool} (h : ∀ i j, i < R → j < C → p i j = p' i j) : relList R C p = relList R C p' := by
  unfold relList
  apply List.map_congr_left
  intro i hi
  rw [bitsum_congr C (fun j hj => h i j (by simpa using hi) hj)]
/-- A list that is being filled: the first i rows are whole, the row i has the columns < j, the others are 0. -/
def part (R C : Nat) (p : Nat → Nat → Bool) (i j : Nat) : List Int := (List.range R).map fun r => if r < i then ((bitsum (p r) C : Nat) : Int) else if r = i then ((bitsum (p r) j : Nat) : Int) else 0
theorem part_length (R C : Nat) (p : Nat → Nat → Bool) (i j : Nat) : (part R C p i j).length = R := by simp [part]
theorem part_start (R C : Nat) (p : Nat → Nat → Bool) : List.replicate R 0 = part R C p 0 0 := by
  apply List.ext_getElem?
  intro r
  by_cases h : r < R
  · simp [part, h, List.getElem?_replicate, bitsum]
  · rw [List.getElem?_eq_none (by simp; omega), List.getElem?_eq_none (by rw [part_length]; omega)]
theorem part_next (R C : Nat) (p : Nat → Nat → Bool) (i : Nat) : part R C p i C = part R C p (i + 1) 0 := by
  apply List.ext_getElem?
  intro r
  by_cases h : r < R
  · simp only [part, List.getElem?_map, List.getElem?_range h, Option.map_some]
    by_cases h1 : r < i
    · simp [h1, show r < i + 1 by omega]
    · by_cases h2 : r = i
      · simp [h2]
      · simp [h1, h2, show ¬ r < i + 1 by omega, bitsum]
  · rw [List.getElem?_eq_none (by rw [part_length]; omega), List.getElem?_eq_none (by rw [part_length]; omega)]
theorem part_end (R C : Nat) (p : Nat → Nat → Bool) : part R C p R 0 = relList R C p := by
  unfold part relList
  apply List.map_congr_left
  intro r hr
  rw [if_pos (by simpa using hr)]
theorem part_rd (R C : Nat) (p : Nat → Nat → Bool) (i j : Nat) (hi : i < R) : rd (part R C p i j) (i : Int) = ((bitsum (p i) j : Nat) : Int) := by
  rw [rd_nat]
  simp [part, List.getD_eq_getElem?_getD, hi]
theorem part_set (R C : Nat) (p : Nat → Nat → Bool) (i j : Nat) (hi : i < R) (hp : p i j = true) : (part R C p i j).set i ((bitsum (p i) j ||| 2 ^ j : Nat) : Int) = part R C p i (j + 1) := by
  apply List.ext_getElem?
  intro r
  by_cases h : r < R
  · rw [List.getElem?_set]
    simp only [part, List.getElem?_map, List.getElem?_range h, Option.map_some, List.length_map, List.length_range]
    by_cases e : i = r
    · subst e
      simp [h, bitsum, hp]
    · rw [if_neg e]
      simp [show ¬ r = i from fun h => e h.symm]
  · rw [List.getElem?_eq_none (by simp [part_length]; omega), List.getElem?_eq_none (by rw [part_length]; omega)]
theorem part_skip (R C : Nat) (p : Nat → Nat → Bool) (i j : Nat) (hp : p i j = false) : part R C p i j = part R C p i (j + 1) := by
  unfold part
  apply List.map_congr_left
  intro r _
  by_cases h1 : r < i
  · simp [h1]
  · by_cases h2 : r = i
    · subst h2
      simp [bitsum, hp]
    · simp [h1, h2]

theorem markTable_k (R C : Int) (l : List Int) (hl : l.length ≤ 1048576) (k : Nat) (hk : l.length < k) : laws_markTable.f k R C l 1 = some (1 + (l.length : Int), iota 1 l.length) := by
  unfold laws_markTable.f
  rw [markIntS_k l 1 (by omega) (by omega) k hk]
  rfl
/-- The columns of a table's marks, as a number. -/
theorem allIn_iff (l : List Int) (a b : Int) : allIn l a b = true ↔ ∀ x ∈ l, a ≤ x ∧ x ≤ b := by
  unfold allIn
  rw [List.all_eq_true]
  simp
/-- What a table is: its rows, its columns, and each row's marks as a number. -/
theorem isTab_iff (R C : Int) (M : List Int) : isTab R C M = true ↔ ∃ (r c : Nat) (ms : List Nat), R = (r : Int) ∧ C = (c : Int) ∧ M = ms.map (fun (x : Nat) => (x : Int)) ∧ 1 ≤ r ∧ r ≤ 6 ∧ 1 ≤ c ∧ c ≤ 6 ∧ ms.length = r ∧ ∀ x ∈ ms, x < 2 ^ c := by
  unfold isTab
  simp only [Bool.and_eq_true, decide_eq_true_eq, allIn_iff]
  constructor
  · rintro ⟨⟨⟨h1, h2⟩, h3⟩, h4⟩
    have ec : C = ((C.toNat : Nat) : Int) := by omega
    have e5 : wrap64 (shl .i64 1 C - 1) = ((2 ^ C.toNat - 1 : Nat) : Int) := by
      rw [ec, shl_one C.toNat (by omega)]
      have hp : 0 < 2 ^ C.toNat := Nat.two_pow_pos _
      have hq : 2 ^ C.toNat ≤ 2 ^ 6 := Nat.pow_le_pow_right (by omega) (by omega)
      have e6 : (((C.toNat : Nat) : Int)).toNat = C.toNat := by omega
      rw [e6, wrap_ok (by omega) (by omega)]
      omega
    rw [e5] at h4
    refine ⟨R.toNat, C.toNat, M.map Int.toNat, by omega, ec, ?_, by omega, by omega, by omega, by omega, by simp; omega, ?_⟩
    · rw [List.map_map]
      conv => lhs; rw [← List.map_id M]
      apply List.map_congr_left
      intro x hx
      have := h4 x hx
      show x = ((x.toNat : Nat) : Int)
      omega
    · intro x hx
      obtain ⟨y, hy, rfl⟩ := List.mem_map.1 hx
      have := h4 y hy
      have hp : 0 < 2 ^ C.toNat := Nat.two_pow_pos _
      omega
  · rintro ⟨r, c, ms, rfl, rfl, rfl, h1, h2, h3, h4, h5, h6⟩
    have hp : 0 < 2 ^ c := Nat.two_pow_pos _
    have hq : 2 ^ c ≤ 2 ^ 6 := Nat.pow_le_pow_right (by omega) (by omega)
    have e5 : wrap64 (shl .i64 1 (c : Int) - 1) = ((2 ^ c - 1 : Nat) : Int) := by
      rw [shl_one c (by omega), wrap_ok (by omega) (by omega)]
      omega
    refine ⟨⟨⟨by omega, by omega⟩, by simp; omega⟩, ?_⟩
    intro x hx
    obtain ⟨y, hy, rfl⟩ := List.mem_map.1 hx
    have := h6 y hy
    rw [e5]
    omega
/-- Is a row marked in a column? -/
def mk (ms : List Nat) (r c : Nat) : Bool := (ms.getD r 0).testBit c
theorem rd_map (ms : List Nat) (i : Nat) : rd (ms.map (fun (x : Nat) => (x : Int))) (i : Int) = ((ms.getD i 0 : Nat) : Int) := by
  rw [rd_nat]
  simp only [List.getD_eq_getElem?_getD, List.getElem?_map]
  cases ms[i]? <;> simp
theorem getD_lt {ms : List Nat} {b : Nat} (hb : 0 < b) (h : ∀ x ∈ ms, x < b) (i : Nat) : ms.getD i 0 < b := by
  rw [List.getD_eq_getElem?_getD]
  cases hx : ms[i]? with
  | none => simpa using hb
  | some x => exact h x (List.mem_of_getElem? hx)
/-- The bit of a number, as Go asks it. -/
theorem shr_nat (x c : Nat) (hc : c < 64) : shr .i64 (x : Int) (c : Int) = ((x / 2 ^ c : Nat) : Int) := by
  unfold shr
  have e : min (c : Int).toNat IntKind.i64.bits = c := by
    show min (c : Int).toNat 64 = c
    omega
  rw [e]
  simp
theorem bit_and (x c : Nat) (hx : x < 2 ^ 63) (hc : c < 64) : (Go.bits .and .i64 (shr .i64 (x : Int) (c : Int)) 1 == 1) = x.testBit c := by
  rw [shr_nat x c hc]
  have h1 : x / 2 ^ c < 2 ^ 63 := Nat.lt_of_le_of_lt (Nat.div_le_self _ _) hx
  have e : Go.bits .and .i64 ((x / 2 ^ c : Nat) : Int) 1 = ((x / 2 ^ c &&& 1 : Nat) : Int) := and_nat _ 1 h1 (by decide)
  rw [e, Nat.and_one_is_mod]
  have e2 : x.testBit c = decide (x / 2 ^ c % 2 = 1) := Nat.testBit_eq_decide_div_mod_eq
  rw [e2]
  by_cases h : x / 2 ^ c % 2 = 1
  · simp [h]
  · have : x / 2 ^ c % 2 = 0 := by omega
    simp [this]
theorem marked_k (R C : Int) (ms : List Nat) (r c : Nat) (hb : ∀ x ∈ ms, x < 64) (hr : r < ms.length) (hc : c < 60) : impl_Table_marked.f R C (ms.map (fun (x : Nat) => (x : Int))) (r : Int) (c : Int) = some (mk ms r c) := by
  unfold impl_Table_marked.f mk
  have := getD_lt (b := 64) (by omega) hb r
  rw [if_pos (by omega), if_pos (by simpa using hr), if_pos (by omega), rd_map, bit_and _ c (by omega) (by omega)]

theorem tmod_nat (n : Nat) : Int.tmod (n : Int) 2 = ((n % 2 : Nat) : Int) := by
  rw [Int.tmod_eq_emod_of_nonneg (by omega)]
  omega
theorem orHas_k (x i : Nat) (hi : i < 64) : spec_orHas.f (x : Int) (i : Int) = some (x.testBit i) := by
  unfold spec_orHas.f
  rw [if_pos (by omega), shr_nat x i hi, tmod_nat]
  have e2 : x.testBit i = decide (x / 2 ^ i % 2 = 1) := Nat.testBit_eq_decide_div_mod_eq
  rw [e2]
  congr 1
  by_cases h : x / 2 ^ i % 2 = 1
  · simp [h]
  · have : x / 2 ^ i % 2 = 0 := by omega
    simp [this]

theorem wrap_small (n : Nat) (h : n < 1000) : wrap64 (n : Int) = (n : Int) := wrap_ok (by omega) (by omega)

/-- Each number of a list, from an index, is more than the one before. -/
def Rising (l : List Int) : Prop := ∀ j, 1 ≤ j → j < l.length → l.getD (j - 1) 0 < l.getD j 0
/-- In the bounds and rising. -/
def InRise (l : List Int) (a b : Int) (i : Nat) : Prop := ∀ j, i ≤ j → j < l.length → (a ≤ l.getD j 0 ∧ l.getD j 0 ≤ b) ∧ (1 ≤ j → l.getD (j - 1) 0 < l.getD j 0)
/-- Is a cell without a mark? -/
def unm (C : Nat) (ms : List Nat) (x : Int) : Prop := mk ms (x.toNat / C) (x.toNat % C) = false
/-- What both call cells. -/
def Cells (N : Int) (C : Nat) (ms : List Nat) (l : List Int) : Prop := (∀ j, j < l.length → (0 ≤ l.getD j 0 ∧ l.getD j 0 ≤ N - 1) ∧ unm C ms (l.getD j 0)) ∧ Rising l
theorem tdiv_nat (x : Int) (C : Nat) (h : 0 ≤ x) : Int.tdiv x (C : Int) = ((x.toNat / C : Nat) : Int) := by
  obtain ⟨n, rfl⟩ := Int.eq_ofNat_of_zero_le h
  rfl
theorem tmod_nat2 (x : Int) (C : Nat) (h : 0 ≤ x) : Int.tmod x (C : Int) = ((x.toNat % C : Nat) : Int) := by
  obtain ⟨n, rfl⟩ := Int.eq_ofNat_of_zero_le h
  rfl
theorem area_eq (R C : Nat) (hR : R ≤ 6) (hC : C ≤ 6) : wrap64 (wrap64 ((R : Int) * (C : Int)) - 1) = ((R * C : Nat) : Int) - 1 := by
  have h : R * C ≤ 6 * 6 := Nat.mul_le_mul hR hC
  have e : (R : Int) * (C : Int) = ((R * C : Nat) : Int) := by simp
  rw [e, wrap_ok (x := ((R * C : Nat) : Int)) (by omega) (by omega), wrap_ok (by omega) (by omega)]
theorem cell_row (R C : Nat) (x : Int) (h0 : 0 ≤ x) (h : x ≤ ((R * C : Nat) : Int) - 1) : x.toNat / C < R := by
  apply Nat.div_lt_of_lt_mul
  rw [Nat.mul_comm]
  omega
theorem inRise_iff (N : Int) (C : Nat) (ms : List Nat) (l : List Int) : Cells N C ms l ↔ InRise l 0 (N - 1) 0 ∧ ∀ j, 0 ≤ j → j < l.length → unm C ms (l.getD j 0) := by
  constructor
  · rintro ⟨h1, h2⟩
    exact ⟨fun j _ h3 => ⟨(h1 j h3).1, fun h4 => h2 j h4 h3⟩, fun j _ h3 => (h1 j h3).2⟩
  · rintro ⟨h1, h2⟩
    exact ⟨fun j h3 => ⟨(h1 j (by omega) h3).1, h2 j (by omega) h3⟩, fun j h4 h3 => (h1 j (by omega) h3).2 h4⟩
/-- Good cells are numbers. -/
theorem cells_nat (R C : Nat) (ms : List Nat) (l : List Int) (h : Cells ((R * C : Nat) : Int) C ms l) : ∃ cs : List Nat, l = cs.map (fun (x : Nat) => (x : Int)) ∧ ∀ c ∈ cs, c < R * C := by
  refine ⟨l.map Int.toNat, ?_, ?_⟩
  · rw [List.map_map]
    apply List.ext_getElem
    · simp
    · intro j h1 h2
      have := (h.1 j h1).1
      rw [List.getD_eq_getElem?_getD, List.getElem?_eq_getElem h1] at this
      simp at this ⊢
      omega
  · intro c hc
    obtain ⟨y, hy, rfl⟩ := List.mem_map.1 hc
    obtain ⟨j, hj, rfl⟩ := List.getElem_of_mem hy
    have := (h.1 j hj).1
    rw [List.getD_eq_getElem?_getD, List.getElem?_eq_getElem hj] at this
    simp at this
    omega

/-- The rows of the cells before i whose column is marked in a row. -/
def befTo (C : Nat) (ms cs : List Nat) (r : Nat) : Nat → Nat
  | 0 => 0
  | i + 1 => if mk ms r (cs.getD i 0 % C) = true then befTo C ms cs r i ||| 2 ^ (cs.getD i 0 / C) else befTo C ms cs r i
theorem cs_row (R C : Nat) (cs : List Nat) (hcs : ∀ c ∈ cs, c < R * C) (i : Nat) (hi : i < cs.length) : cs.getD i 0 / C < R := by
  apply Nat.div_lt_of_lt_mul
  rw [Nat.mul_comm, List.getD_eq_getElem?_getD, List.getElem?_eq_getElem hi]
  exact hcs _ (List.getElem_mem hi)
theorem befTo_lt (R C : Nat) (ms cs : List Nat) (hcs : ∀ c ∈ cs, c < R * C) (r : Nat) : ∀ i, i ≤ cs.length → befTo C ms cs r i < 2 ^ R := by
  intro i
  induction i with
  | zero => intro _; exact Nat.two_pow_pos _
  | succ i ih =>
    intro hi
    rw [befTo]
    split
    · exact Nat.or_lt_two_pow (ih (by omega)) (Nat.pow_lt_pow_right (by omega) (cs_row R C cs hcs i (by omega)))
    · exact ih (by omega)
theorem befTo_bit (C : Nat) (ms cs : List Nat) (r i s : Nat) : (befTo C ms cs r i).testBit s = true ↔ ∃ j, j < i ∧ cs.getD j 0 / C = s ∧ mk ms r (cs.getD j 0 % C) = true := by
  induction i with
  | zero => simp [befTo]
  | succ i ih =>
    rw [befTo]
    cases hm : mk ms r (cs.getD i 0 % C)
    · rw [if_neg (by simp), ih]
      constructor
      · rintro ⟨j, h1, h2⟩
        exact ⟨j, by omega, h2⟩
      · rintro ⟨j, h1, h2, h3⟩
        by_cases e : j = i
        · subst e
          rw [hm] at h3
          cases h3
        · exact ⟨j, by omega, h2, h3⟩
    · rw [if_pos rfl, Nat.testBit_or, Bool.or_eq_true, ih, Nat.testBit_two_pow, decide_eq_true_eq]
      constructor
      · rintro (⟨j, h1, h2⟩ | h)
        · exact ⟨j, by omega, h2⟩
        · exact ⟨i, by omega, h, hm⟩
      · rintro ⟨j, h1, h2, h3⟩
        by_cases e : j = i
        · subst e
          exact Or.inr h2
        · exact Or.inl ⟨j, by omega, h2, h3⟩
/-- The list that is being filled: the cells before i are done, the next one for the rows before r. -/
def befPart (R C : Nat) (ms cs : List Nat) (i r : Nat) : List Int := (List.range R).map fun q => if q < r then ((befTo C ms cs q (i + 1) : Nat) : Int) else ((befTo C ms cs q i : Nat) : Int)
theorem befPart_length (R C : Nat) (ms cs : List Nat) (i r : Nat) : (befPart R C ms cs i r).length = R := by simp [befPart]
theorem befPart_start (R C : Nat) (ms cs : List Nat) : List.replicate R 0 = befPart R C ms cs 0 0 := by
  apply List.ext_getElem?
  intro r
  by_cases h : r < R
  · simp [befPart, h, List.getElem?_replicate, befTo]
  · rw [List.getElem?_eq_none (by simp; omega), List.getElem?_eq_none (by rw [befPart_length]; omega)]
theorem befPart_next (R C : Nat) (ms cs : List Nat) (i : Nat) : befPart R C ms cs i R = befPart R C ms cs (i + 1) 0 := by
  unfold befPart
  apply List.map_congr_left
  intro q hq
  rw [if_pos (by simpa using hq), if_neg (by omega)]
theorem befPart_rd (R C : Nat) (ms cs : List Nat) (i r : Nat) (hr : r < R) : rd (befPart R C ms cs i r) (r : Int) = ((befTo C ms cs r i : Nat) : Int) := by
  rw [rd_nat]
  simp [befPart, List.getD_eq_getElem?_getD, hr]
theorem befPart_skip (R C : Nat) (ms cs : List Nat) (i r : Nat) (hm : mk ms r (cs.getD i 0 % C) = false) : befPart R C ms cs i r = befPart R C ms cs i (r + 1) := by
  unfold befPart
  apply List.map_congr_left
  intro q _
  by_cases h : q < r
  · rw [if_pos h, if_pos (by omega)]
  · rw [if_neg h]
    by_cases e : q = r
    · subst e
      rw [if_pos (by omega), befTo, hm, if_neg (by simp)]
    · rw [if_neg (by omega)]
theorem befPart_set (R C : Nat) (ms cs : List Nat) (i r : Nat) (hm : mk ms r (cs.getD i 0 % C) = true) : (befPart R C ms cs i r).set r ((befTo C ms cs r i ||| 2 ^ (cs.getD i 0 / C) : Nat) : Int) = befPart R C ms cs i (r + 1) := by
  apply List.ext_getElem?
  intro q
  by_cases h : q < R
  · rw [List.getElem?_set]
    simp only [befPart, List.getElem?_map, List.getElem?_range h, Option.map_some, List.length_map, List.length_range]
    by_cases e : r = q
    · subst e
      rw [if_pos rfl, if_pos h, if_pos (by omega), befTo, if_pos hm]
    · rw [if_neg e]
      by_cases h1 : q < r
      · rw [if_pos h1, if_pos (by omega)]
      · rw [if_neg h1, if_neg (by omega)]
  · rw [List.getElem?_eq_none (by simp [befPart_length]; omega), List.getElem?_eq_none (by rw [befPart_length]; omega)]
theorem freeOrder_l0 (R C : Nat) (ms cs : List Nat) (hR : ms.length = R) (hR6 : R ≤ 6) (hC0 : 1 ≤ C) (hC : C ≤ 6) (hb : ∀ x ∈ ms, x < 64) (hcs : ∀ c ∈ cs, c < R * C) (hl : cs.length ≤ 1048576) (W : List Int) (K : Nat)
    (hW : ∀ k, K ≤ k → impl_Table_freeOrder.l2 k (befPart R C ms cs cs.length 0) [] 0 (R : Int) (C : Int) (ms.map (fun (x : Nat) => (x : Int))) = some W) : ∀ (d k i : Nat), i + d = cs.length → K + d * (R + 2) < k →
    impl_Table_freeOrder.l0 k (befPart R C ms cs i 0) (cs.map (fun (x : Nat) => (x : Int))) (cs.length : Int) (i : Int) (R : Int) (C : Int) (ms.map (fun (x : Nat) => (x : Int))) = some W := by
  intro d
  induction d with
  | zero =>
    intro k i hi hk
    obtain ⟨k, rfl⟩ : ∃ m, k = m + 1 := ⟨k - 1, by omega⟩
    simp only [impl_Table_freeOrder.l0]
    have e : i = cs.length := by omega
    rw [if_neg (by omega), e]
    exact hW k (by omega)
  | succ d ih =>
    intro k i hi hk
    rw [Nat.succ_mul] at hk
    obtain ⟨k, rfl⟩ : ∃ m, k = m + 1 := ⟨k - 1, by omega⟩
    simp only [impl_Table_freeOrder.l0]
    have lc : ((cs.map (fun (x : Nat) => (x : Int))).length : Int) = (cs.length : Int) := by simp
    have hrow := cs_row R C cs hcs i (by omega)
    have hcol : cs.getD i 0 % C < C := Nat.mod_lt _ (by omega)
    rw [if_pos (by omega), if_pos (by omega), if_pos (by omega), rd_map]
    have inner : ∀ (e k r : Nat), r + e = R → K + d * (R + 2) + 1 + e < k → impl_Table_freeOrder.l1 k (befPart R C ms cs i r) ((cs.getD i 0 : Nat) : Int) (cs.map (fun (x : Nat) => (x : Int))) (cs.length : Int) (i : Int) (R : Int) (r : Int) (R : Int) (C : Int) (ms.map (fun (x : Nat) => (x : Int))) = some W := by
      intro e
      induction e with
      | zero =>
        intro k r hr hk
        obtain ⟨k, rfl⟩ : ∃ m, k = m + 1 := ⟨k - 1, by omega⟩
        simp only [impl_Table_freeOrder.l1]
        have e2 : r = R := by omega
        subst e2
        rw [if_neg (by omega), wrap_ok (by omega) (by omega), show ((i : Int) + 1) = ((i + 1 : Nat) : Int) by omega, befPart_next]
        exact ih k (i + 1) (by omega) (by omega)
      | succ e ihe =>
        intro k r hr hk
        obtain ⟨k, rfl⟩ : ∃ m, k = m + 1 := ⟨k - 1, by omega⟩
        simp only [impl_Table_freeOrder.l1]
        have next := ihe k (r + 1) (by omega) (by omega)
        have t1 : Int.tmod ((cs.getD i 0 : Nat) : Int) (C : Int) = ((cs.getD i 0 % C : Nat) : Int) := rfl
        have t2 : Int.tdiv ((cs.getD i 0 : Nat) : Int) (C : Int) = ((cs.getD i 0 / C : Nat) : Int) := rfl
        have b1 := befTo_lt R C ms cs hcs r i (by omega)
        have b2 : 2 ^ R ≤ 2 ^ 6 := Nat.pow_le_pow_right (by omega) hR6
        have e3 : (r : Int).toNat = r := by omega
        rw [if_pos (by omega), if_neg (by omega), t1, marked_k (R : Int) (C : Int) ms r _ hb (by omega) (by omega), t2, wrap_small _ (Nat.lt_of_lt_of_le hrow (by omega)), wrap_ok (x := (r : Int) + 1) (by omega) (by omega), show ((r : Int) + 1) = ((r + 1 : Nat) : Int) by omega, e3]
        simp only [Option.bind_some]
        cases hm : mk ms r (cs.getD i 0 % C)
        · rw [if_neg (by simp), befPart_skip R C ms cs i r hm]
          exact next
        · rw [if_pos rfl, if_pos (by omega), befPart_length, if_pos (by omega), if_pos (Int.natCast_nonneg _), befPart_rd R C ms cs i r (by omega), or_shl _ _ (by omega) (Nat.lt_of_lt_of_le hrow (by omega)), befPart_set R C ms cs i r hm]
          exact next
    exact inner R k 0 (by omega) (by omega)
/-- May a row come next, behind those that have come? -/
def ready (C : Nat) (ms cs out : List Nat) (r : Nat) : Bool := !out.contains r && (List.range' 0 cs.length).all fun j => !mk ms r (cs.getD j 0 % C) || out.contains (cs.getD j 0 / C)
/-- The first row that may come next. -/
def pick (R C : Nat) (ms cs out : List Nat) : Option Nat := (List.range' 0 R).find? (ready C ms cs out)
/-- The rows one after the other. -/
def orderFrom (R C : Nat) (ms cs : List Nat) : Nat → List Nat → Option (List Nat)
  | 0, out => some out
  | d + 1, out => (pick R C ms cs out).bind fun r => orderFrom R C ms cs d (out ++ [r])
theorem orderFrom_length (R C : Nat) (ms cs : List Nat) : ∀ d out l, orderFrom R C ms cs d out = some l → l.length = out.length + d := by
  intro d
  induction d with
  | zero =>
    intro out l h
    simp only [orderFrom, Option.some.injEq] at h
    rw [← h]
    rfl
  | succ d ih =>
    intro out l h
    simp only [orderFrom] at h
    cases hp : pick R C ms cs out with
    | none => simp [hp] at h
    | some r =>
      rw [hp] at h
      have := ih _ l h
      rw [this]
      simp
      omega
theorem pick_lt {R C : Nat} {ms cs out : List Nat} {r : Nat} (h : pick R C ms cs out = some r) : r < R := by
  have := List.mem_of_find?_eq_some h
  rw [List.mem_range'] at this
  obtain ⟨i, hi, e⟩ := this
  omega
theorem orderFrom_lt (R C : Nat) (ms cs : List Nat) : ∀ d out l, (∀ s ∈ out, s < R) → orderFrom R C ms cs d out = some l → ∀ s ∈ l, s < R := by
  intro d
  induction d with
  | zero =>
    intro out l ho h
    simp only [orderFrom, Option.some.injEq] at h
    rw [← h]
    exact ho
  | succ d ih =>
    intro out l ho h
    simp only [orderFrom] at h
    cases hp : pick R C ms cs out with
    | none => simp [hp] at h
    | some r =>
      rw [hp] at h
      refine ih _ l ?_ h
      intro s hs
      rcases List.mem_append.1 hs with h1 | h1
      · exact ho s h1
      · have : s = r := by simpa using h1
        rw [this]
        exact pick_lt hp
theorem ready_iff (C : Nat) (ms cs out : List Nat) (r set : Nat) (hset : ∀ s, set.testBit s = out.contains s) : ready C ms cs out r = true ↔ set.testBit r = false ∧ andn (befTo C ms cs r cs.length) set = 0 := by
  unfold ready
  rw [Bool.and_eq_true, List.all_eq_true, andn_zero, hset r]
  constructor
  · rintro ⟨h1, h2⟩
    refine ⟨by simpa using h1, fun s hs => ?_⟩
    obtain ⟨j, hj, e1, e2⟩ := (befTo_bit C ms cs r cs.length s).1 hs
    have := h2 j (by rw [List.mem_range']; exact ⟨j, hj, by omega⟩)
    rw [e2, e1] at this
    rw [hset]
    simpa using this
  · rintro ⟨h1, h2⟩
    refine ⟨by rw [h1]; rfl, fun j hj => ?_⟩
    rw [List.mem_range'] at hj
    obtain ⟨i, hi, e⟩ := hj
    have ei : j = i := by omega
    subst ei
    cases hm : mk ms r (cs.getD j 0 % C)
    · simp
    · have := h2 (cs.getD j 0 / C) ((befTo_bit C ms cs r cs.length _).2 ⟨j, hi, rfl, hm⟩)
      rw [hset] at this
      rw [this, Bool.or_true]
theorem set_lt {R set : Nat} {out : List Nat} (hset : ∀ s, set.testBit s = out.contains s) (ho : ∀ s ∈ out, s < R) : set < 2 ^ R := by
  apply Nat.lt_pow_two_of_testBit
  intro i hi
  rw [hset]
  cases h : out.contains i
  · rfl
  · have := ho i (by simpa using h)
    omega
theorem set_add {set r : Nat} {out : List Nat} (hset : ∀ s, set.testBit s = out.contains s) : ∀ s, (set ||| 2 ^ r).testBit s = (out ++ [r]).contains s := by
  intro s
  rw [Nat.testBit_or, hset, Nat.testBit_two_pow]
  by_cases h : r = s
  · subst h
    simp
  · have : ¬ s = r := fun e => h e.symm
    simp [h, this]
theorem freeOrder_l3 (R C : Nat) (ms cs : List Nat) (hR6 : R ≤ 6) (hcs : ∀ c ∈ cs, c < R * C) (M : List Int) (out : List Nat) (set : Nat) (hset : ∀ s, set.testBit s = out.contains s) (ho : ∀ s ∈ out, s < R) (hol : out.length ≤ 6) (K : Nat) (W : List Int) : ∀ (d k r : Nat), r + d = R → K + d < k →
    ((List.range' r d).find? (ready C ms cs out) = none → W = []) →
    (∀ q, (List.range' r d).find? (ready C ms cs out) = some q → ∀ k', K ≤ k' → impl_Table_freeOrder.l2 k' (befPart R C ms cs cs.length 0) ((out ++ [q]).map (fun (x : Nat) => (x : Int))) ((set ||| 2 ^ q : Nat) : Int) (R : Int) (C : Int) M = some W) →
    impl_Table_freeOrder.l3 k (befPart R C ms cs cs.length 0) (out.map (fun (x : Nat) => (x : Int))) (set : Int) (r : Int) (R : Int) (C : Int) M = some W := by
  intro d
  have hs := set_lt hset ho
  have b2 : 2 ^ R ≤ 2 ^ 6 := Nat.pow_le_pow_right (by omega) hR6
  induction d with
  | zero =>
    intro k r hr hk h0 _
    obtain ⟨k, rfl⟩ : ∃ m, k = m + 1 := ⟨k - 1, by omega⟩
    simp only [impl_Table_freeOrder.l3]
    rw [if_neg (by omega), if_pos (by omega), h0 (by simp)]
  | succ d ih =>
    intro k r hr hk h0 hc
    obtain ⟨k, rfl⟩ : ∃ m, k = m + 1 := ⟨k - 1, by omega⟩
    simp only [impl_Table_freeOrder.l3]
    rw [List.range'_succ, List.find?_cons] at h0
    have b1 := befTo_lt R C ms cs hcs r cs.length (by omega)
    have hrd : rd (befPart R C ms cs cs.length 0) (r : Int) = ((befTo C ms cs r cs.length : Nat) : Int) := by
      rw [rd_nat]
      simp [befPart, List.getD_eq_getElem?_getD, show r < R by omega]
    have hbit : (Go.bits .and .i64 (shr .i64 (set : Int) (r : Int)) 1 = 1) ↔ set.testBit r = true := by
      rw [← bit_and set r (by omega) (by omega), beq_iff_eq]
    have he : ((r : Int) + 1) = ((r + 1 : Nat) : Int) := by omega
    have rest : ready C ms cs out r = false → impl_Table_freeOrder.l3 k (befPart R C ms cs cs.length 0) (out.map (fun (x : Nat) => (x : Int))) (set : Int) ((r + 1 : Nat) : Int) (R : Int) (C : Int) M = some W := by
      intro hf
      rw [hf] at h0
      refine ih k (r + 1) (by omega) (by omega) h0 fun q hq => hc q ?_
      rw [List.range'_succ, List.find?_cons, hf]
      exact hq
    rw [if_pos (by omega), if_pos (by omega)]
    by_cases hb : set.testBit r = true
    · rw [if_pos (hbit.2 hb), wrap_ok (by omega) (by omega), he]
      apply rest
      cases hy : ready C ms cs out r
      · rfl
      · have := ((ready_iff C ms cs out r set hset).1 hy).1
        rw [hb] at this
        cases this
    · rw [if_neg (fun h => hb (hbit.1 h)), befPart_length, if_pos (by omega), hrd, andNot_nat _ _ (by omega) (by omega), wrap_ok (by omega) (by omega), he]
      by_cases ha : andn (befTo C ms cs r cs.length) set = 0
      · have hy : ready C ms cs out r = true := (ready_iff C ms cs out r set hset).2 ⟨by simpa using hb, ha⟩
        rw [if_pos (by omega), if_neg (by omega), if_pos (by simp; omega), or_shl set r (by omega) (by omega)]
        have := hc r (by rw [List.range'_succ, List.find?_cons, hy]) k (by omega)
        simpa using this
      · rw [if_neg (by omega)]
        apply rest
        cases hy : ready C ms cs out r
        · rfl
        · exact absurd ((ready_iff C ms cs out r set hset).1 hy).2 ha
theorem freeOrder_l2 (R C : Nat) (ms cs : List Nat) (hR0 : 1 ≤ R) (hR6 : R ≤ 6) (hcs : ∀ c ∈ cs, c < R * C) (M : List Int) : ∀ (d k : Nat) (out : List Nat) (set : Nat), out.length + d = R → (∀ s, set.testBit s = out.contains s) → (∀ s ∈ out, s < R) → d * (R + 3) < k →
    impl_Table_freeOrder.l2 k (befPart R C ms cs cs.length 0) (out.map (fun (x : Nat) => (x : Int))) (set : Int) (R : Int) (C : Int) M = some (((orderFrom R C ms cs d out).getD []).map (fun (x : Nat) => (x : Int))) := by
  intro d
  induction d with
  | zero =>
    intro k out set hd hset ho hk
    obtain ⟨k, rfl⟩ : ∃ m, k = m + 1 := ⟨k - 1, by omega⟩
    simp only [impl_Table_freeOrder.l2, orderFrom]
    have hne : ¬ (out.map (fun (x : Nat) => (x : Int))) = [] := by
      intro h
      have := congrArg List.length h
      simp at this
      rw [this] at hd
      simp at hd
      omega
    rw [if_neg (by simp; omega), if_neg hne]
    rfl
  | succ d ih =>
    intro k out set hd hset ho hk
    rw [Nat.succ_mul] at hk
    obtain ⟨k, rfl⟩ : ∃ m, k = m + 1 := ⟨k - 1, by omega⟩
    simp only [impl_Table_freeOrder.l2]
    rw [if_pos (by simp; omega)]
    refine freeOrder_l3 R C ms cs hR6 hcs M out set hset ho (by omega) (d * (R + 3) + 1) _ R k 0 (by omega) (by omega) ?_ ?_
    · intro h
      have hp : pick R C ms cs out = none := h
      simp only [orderFrom, hp]
      rfl
    · intro q hq k' hk'
      have hp : pick R C ms cs out = some q := hq
      simp only [orderFrom, hp, Option.bind_some]
      refine ih k' (out ++ [q]) _ (by simp; omega) (set_add hset) ?_ (by omega)
      intro s hs
      rcases List.mem_append.1 hs with h1 | h1
      · exact ho s h1
      · have : s = q := by simpa using h1
        rw [this]
        exact pick_lt hp
theorem freeOrder_k (R C : Nat) (ms cs : List Nat) (hR : ms.length = R) (hR0 : 1 ≤ R) (hR6 : R ≤ 6) (hC0 : 1 ≤ C) (hC : C ≤ 6) (hb : ∀ x ∈ ms, x < 64) (hcs : ∀ c ∈ cs, c < R * C) (hl : cs.length ≤ 1048576) (k : Nat) (hk : 8 * cs.length + 60 < k) :
    impl_Table_freeOrder.f k (R : Int) (C : Int) (ms.map (fun (x : Nat) => (x : Int))) (cs.map (fun (x : Nat) => (x : Int))) = some (((orderFrom R C ms cs R []).getD []).map (fun (x : Nat) => (x : Int))) := by
  unfold impl_Table_freeOrder.f
  have e : ((R : Int)).toNat = R := by omega
  have lc : ((cs.map (fun (x : Nat) => (x : Int))).length : Int) = (cs.length : Int) := by simp
  have h1 : cs.length * (R + 2) ≤ cs.length * 8 := Nat.mul_le_mul_left _ (by omega)
  have h2 : R * (R + 3) ≤ 6 * 9 := Nat.mul_le_mul hR6 (by omega)
  rw [if_pos (by omega), if_pos (by omega), e, befPart_start R C ms cs, lc]
  refine freeOrder_l0 R C ms cs hR hR6 hC0 hC hb hcs hl _ 55 (fun k hk => ?_) cs.length k 0 (by omega) (by omega)
  exact freeOrder_l2 R C ms cs hR0 hR6 hcs _ R k [] 0 (by simp) (by simp) (by simp) (by omega)
/-! The reference's. -/
theorem l1Has_l0 (l : List Nat) (s : Nat) (hl : l.length ≤ 1048576) : ∀ (d k i : Nat), i + d = l.length → d < k → spec_l1Has.l0 k (s : Int) (l.map (fun (x : Nat) => (x : Int))) (l.length : Int) (i : Int) = some ((l.drop i).contains s) := by
  intro d
  induction d with
  | zero =>
    intro k i hi hk
    obtain ⟨k, rfl⟩ : ∃ m, k = m + 1 := ⟨k - 1, by omega⟩
    simp only [spec_l1Has.l0]
    rw [if_neg (by omega), List.drop_eq_nil_of_le (by omega)]
    rfl
  | succ d ih =>
    intro k i hi hk
    obtain ⟨k, rfl⟩ : ∃ m, k = m + 1 := ⟨k - 1, by omega⟩
    simp only [spec_l1Has.l0]
    have lc : ((l.map (fun (x : Nat) => (x : Int))).length : Int) = (l.length : Int) := by simp
    have ed : l.drop i = l.getD i 0 :: l.drop (i + 1) := by
      rw [List.drop_eq_getElem_cons (by omega)]
      simp [show i < l.length by omega]
    rw [if_pos (by omega), if_pos (by omega), if_pos (by omega), rd_map, wrap_ok (by omega) (by omega), show ((i : Int) + 1) = ((i + 1 : Nat) : Int) by omega, ih k (i + 1) (by omega) (by omega), ed, List.contains_cons]
    by_cases h : l.getD i 0 = s
    · rw [if_pos (by omega), h]
      simp
    · rw [if_neg (by omega)]
      have h2 : (s == l.getD i 0) = false := by
        rw [beq_eq_false_iff_ne]
        exact fun e => h e.symm
      rw [h2, Bool.false_or]
theorem l1Has_k (l : List Nat) (s : Nat) (hl : l.length ≤ 1048576) (k : Nat) (hk : l.length < k) : spec_l1Has.f k (l.map (fun (x : Nat) => (x : Int))) (s : Int) = some (l.contains s) := by
  unfold spec_l1Has.f
  have := l1Has_l0 l s hl l.length k 0 (by omega) hk
  have lc : ((l.map (fun (x : Nat) => (x : Int))).length : Int) = (l.length : Int) := by simp
  rw [lc]
  exact this
/-- Does a cell let a row come next? -/
def lets (C : Nat) (ms cs out : List Nat) (r j : Nat) : Bool := !mk ms r (cs.getD j 0 % C) || out.contains (cs.getD j 0 / C)
/-- The row that is next, as the program's number. -/
def enc : Option Nat → Int
  | none => -1
  | some r => (r : Int)
theorem feOrder_l2 (R C : Nat) (ms cs : List Nat) (hR : ms.length = R) (hR6 : R ≤ 6) (hC0 : 1 ≤ C) (hC : C ≤ 6) (hb : ∀ x ∈ ms, x < 64) (hcs : ∀ c ∈ cs, c < R * C) (hl : cs.length ≤ 1048576) (out : List Nat) (hol : out.length ≤ 6) (K : Nat) (W : List Int × Bool) (nx : Int) (r : Nat) (hr : r < R) : ∀ (d k j : Nat) (g : Bool), j + d = cs.length → K + d + 7 < k →
    (∀ k', K ≤ k' → spec_feOrder.l1 k' (cs.map (fun (x : Nat) => (x : Int))) (out.map (fun (x : Nat) => (x : Int))) (if (g && (List.range' j d).all (lets C ms cs out r)) = true then (r : Int) else nx) ((r : Int) - 1) (R : Int) (C : Int) (ms.map (fun (x : Nat) => (x : Int))) = some W) →
    spec_feOrder.l2 k (cs.map (fun (x : Nat) => (x : Int))) (out.map (fun (x : Nat) => (x : Int))) nx (r : Int) g (cs.map (fun (x : Nat) => (x : Int))) (cs.length : Int) (j : Int) (R : Int) (C : Int) (ms.map (fun (x : Nat) => (x : Int))) = some W := by
  intro d
  induction d with
  | zero =>
    intro k j g hj hk hW
    obtain ⟨k, rfl⟩ : ∃ m, k = m + 1 := ⟨k - 1, by omega⟩
    simp only [spec_feOrder.l2]
    have := hW k (by omega)
    simp only [List.range'_zero, List.all_nil, Bool.and_true] at this
    rw [if_neg (by omega), wrap_ok (by omega) (by omega)]
    cases g
    · rw [if_neg (by simp)]
      simpa using this
    · rw [if_pos rfl]
      simpa using this
  | succ d ih =>
    intro k j g hj hk hW
    obtain ⟨k, rfl⟩ : ∃ m, k = m + 1 := ⟨k - 1, by omega⟩
    simp only [spec_feOrder.l2]
    rw [List.range'_succ, List.all_cons, ← Bool.and_assoc] at hW
    have next := ih k (j + 1) (g && lets C ms cs out r j) (by omega) (by omega) hW
    have lc : ((cs.map (fun (x : Nat) => (x : Int))).length : Int) = (cs.length : Int) := by simp
    have lm : ((ms.map (fun (x : Nat) => (x : Int))).length : Int) = (R : Int) := by simp [hR]
    have hrow := cs_row R C cs hcs j (by omega)
    have hcol : cs.getD j 0 % C < C := Nat.mod_lt _ (by omega)
    have t1 : Int.tmod ((cs.getD j 0 : Nat) : Int) (C : Int) = ((cs.getD j 0 % C : Nat) : Int) := rfl
    have t2 : Int.tdiv ((cs.getD j 0 : Nat) : Int) (C : Int) = ((cs.getD j 0 / C : Nat) : Int) := rfl
    have em : (ms.getD r 0).testBit (cs.getD j 0 % C) = mk ms r (cs.getD j 0 % C) := rfl
    rw [if_pos (by omega), if_pos (by omega), if_pos (by omega), rd_map, t1, t2, if_neg (by omega), wrap_small _ (Nat.lt_of_lt_of_le hrow (by omega)), l1Has_k out _ (by omega) k (by omega), wrap_ok (x := (j : Int) + 1) (by omega) (by omega), show ((j : Int) + 1) = ((j + 1 : Nat) : Int) by omega, if_pos (by omega), if_pos (by omega), rd_map, orHas_k _ _ (by omega), em]
    simp only [Option.bind_some]
    unfold lets at next
    cases h1 : out.contains (cs.getD j 0 / C)
    · rw [if_neg (by simp)]
      rw [h1, Bool.or_false] at next
      cases h2 : mk ms r (cs.getD j 0 % C)
      · rw [if_neg (by simp)]
        rw [h2] at next
        simpa using next
      · rw [if_pos rfl]
        rw [h2] at next
        simpa using next
    · rw [if_pos rfl]
      rw [h1, Bool.or_true, Bool.and_true] at next
      exact next
theorem ready_eq (C : Nat) (ms cs out : List Nat) (r : Nat) : ready C ms cs out r = (!out.contains r && (List.range' 0 cs.length).all (lets C ms cs out r)) := rfl
theorem feOrder_l1 (R C : Nat) (ms cs : List Nat) (hR : ms.length = R) (hR6 : R ≤ 6) (hC0 : 1 ≤ C) (hC : C ≤ 6) (hb : ∀ x ∈ ms, x < 64) (hcs : ∀ c ∈ cs, c < R * C) (hl : cs.length ≤ 1048576) (out : List Nat) (hol : out.length ≤ 6) (K : Nat) (W : List Int × Bool)
    (h0 : pick R C ms cs out = none → W = ([], false)) (h1 : ∀ q, pick R C ms cs out = some q → ∀ k', K ≤ k' → spec_feOrder.l0 k' (cs.map (fun (x : Nat) => (x : Int))) ((out ++ [q]).map (fun (x : Nat) => (x : Int))) (R : Int) (C : Int) (ms.map (fun (x : Nat) => (x : Int))) = some W) : ∀ (j k : Nat), j ≤ R → K + j * (cs.length + 12) + 1 < k →
    spec_feOrder.l1 k (cs.map (fun (x : Nat) => (x : Int))) (out.map (fun (x : Nat) => (x : Int))) (enc ((List.range' j (R - j)).find? (ready C ms cs out))) ((j : Int) - 1) (R : Int) (C : Int) (ms.map (fun (x : Nat) => (x : Int))) = some W := by
  intro j
  induction j with
  | zero =>
    intro k hj hk
    obtain ⟨k, rfl⟩ : ∃ m, k = m + 1 := ⟨k - 1, by omega⟩
    simp only [spec_feOrder.l1]
    have e : (List.range' 0 (R - 0)).find? (ready C ms cs out) = pick R C ms cs out := rfl
    rw [if_neg (by omega), e]
    cases hp : pick R C ms cs out with
    | none =>
      rw [if_pos (by simp [enc]), h0 hp]
    | some q =>
      have := h1 q hp k (by omega)
      rw [if_neg (by simp only [enc]; omega), if_pos (by simp; omega)]
      simpa [enc] using this
  | succ j ih =>
    intro k hj hk
    rw [Nat.succ_mul] at hk
    obtain ⟨k, rfl⟩ : ∃ m, k = m + 1 := ⟨k - 1, by omega⟩
    simp only [spec_feOrder.l1]
    have ej : (((j + 1 : Nat) : Int) - 1) = (j : Int) := by omega
    have er : R - j = (R - (j + 1)) + 1 := by omega
    have goal := fun (k : Nat) (hk : K + j * (cs.length + 12) + 1 < k) => ih k (by omega) hk
    rw [er, List.range'_succ, List.find?_cons] at goal
    rw [ej, if_pos (by omega), l1Has_k out _ (by omega) k (by omega), wrap_ok (by omega) (by omega)]
    simp only [Option.bind_some]
    cases hc : out.contains j
    · rw [if_neg (by simp)]
      have lc : ((cs.map (fun (x : Nat) => (x : Int))).length : Int) = (cs.length : Int) := by simp
      rw [lc]
      refine feOrder_l2 R C ms cs hR hR6 hC0 hC hb hcs hl out hol (K + j * (cs.length + 12) + 2) W _ j (by omega) cs.length k 0 true (by omega) (by omega) ?_
      intro k' hk'
      have g := goal k' (by omega)
      rw [ready_eq, hc] at g
      cases ha : (List.range' 0 cs.length).all (lets C ms cs out j)
      · rw [ha] at g
        simpa using g
      · rw [ha] at g
        simpa [enc] using g
    · rw [if_pos rfl]
      have g := goal k (by omega)
      rw [ready_eq, hc] at g
      simpa using g
theorem feOrder_l0 (R C : Nat) (ms cs : List Nat) (hR : ms.length = R) (hR6 : R ≤ 6) (hC0 : 1 ≤ C) (hC : C ≤ 6) (hb : ∀ x ∈ ms, x < 64) (hcs : ∀ c ∈ cs, c < R * C) (hl : cs.length ≤ 1048576) : ∀ (d k : Nat) (out : List Nat), out.length + d = R → d * (6 * (cs.length + 12) + 4) < k →
    spec_feOrder.l0 k (cs.map (fun (x : Nat) => (x : Int))) (out.map (fun (x : Nat) => (x : Int))) (R : Int) (C : Int) (ms.map (fun (x : Nat) => (x : Int))) = some (match orderFrom R C ms cs d out with | none => ([], false) | some l => (l.map (fun (x : Nat) => (x : Int)), true)) := by
  intro d
  induction d with
  | zero =>
    intro k out hd hk
    obtain ⟨k, rfl⟩ : ∃ m, k = m + 1 := ⟨k - 1, by omega⟩
    simp only [spec_feOrder.l0, orderFrom]
    rw [if_neg (by simp; omega)]
  | succ d ih =>
    intro k out hd hk
    rw [Nat.succ_mul] at hk
    obtain ⟨k, rfl⟩ : ∃ m, k = m + 1 := ⟨k - 1, by omega⟩
    simp only [spec_feOrder.l0]
    have hm : R * (cs.length + 12) ≤ 6 * (cs.length + 12) := Nat.mul_le_mul_right _ hR6
    rw [if_pos (by simp; omega), wrap_ok (by omega) (by omega)]
    have L := feOrder_l1 R C ms cs hR hR6 hC0 hC hb hcs hl out (by omega) (d * (6 * (cs.length + 12) + 4) + 1) (match orderFrom R C ms cs (d + 1) out with | none => ([], false) | some l => (l.map (fun (x : Nat) => (x : Int)), true))
      (fun hp => by simp [orderFrom, hp])
      (fun q hp k' hk' => by
        simp only [orderFrom, hp, Option.bind_some]
        exact ih k' (out ++ [q]) (by simp; omega) (by omega)) R k (by omega) (by omega)
    have e : R - R = 0 := by omega
    rw [e] at L
    exact L
theorem feOrder_k (R C : Nat) (ms cs : List Nat) (hR : ms.length = R) (hR6 : R ≤ 6) (hC0 : 1 ≤ C) (hC : C ≤ 6) (hb : ∀ x ∈ ms, x < 64) (hcs : ∀ c ∈ cs, c < R * C) (hl : cs.length ≤ 1048576) (k : Nat) (hk : 36 * cs.length + 600 < k) :
    spec_feOrder.f k (R : Int) (C : Int) (ms.map (fun (x : Nat) => (x : Int))) (cs.map (fun (x : Nat) => (x : Int))) = some (match orderFrom R C ms cs R [] with | none => ([], false) | some l => (l.map (fun (x : Nat) => (x : Int)), true)) := by
  unfold spec_feOrder.f
  have hm : R * (6 * (cs.length + 12) + 4) ≤ 6 * (6 * (cs.length + 12) + 4) := Nat.mul_le_mul_right _ hR6
  exact feOrder_l0 R C ms cs hR hR6 hC0 hC hb hcs hl R k [] (by simp) (by omega)

/-- The cells without a mark in the columns < j of the row i. -/
def emptyRow (C : Nat) (ms : List Nat) (i j : Nat) : List Int := ((List.range j).filter (fun c => !mk ms i c)).map (fun (c : Nat) => ((i * C + c : Nat) : Int))
/-- The cells without a mark in the rows < i. -/
def emptyTo (C : Nat) (ms : List Nat) (i : Nat) : List Int := (List.range i).flatMap (fun r => emptyRow C ms r C)
theorem emptyRow_succ (C : Nat) (ms : List Nat) (i j : Nat) : emptyRow C ms i (j + 1) = emptyRow C ms i j ++ (if mk ms i j = true then [] else [((i * C + j : Nat) : Int)]) := by
  unfold emptyRow
  rw [List.range_succ, List.filter_append, List.map_append]
  cases h : mk ms i j <;> simp [h]
theorem emptyRow_length (C : Nat) (ms : List Nat) (i j : Nat) : (emptyRow C ms i j).length ≤ j := by
  have := List.length_filter_le (fun c => !mk ms i c) (List.range j)
  simpa [emptyRow] using this
theorem emptyTo_succ (C : Nat) (ms : List Nat) (i : Nat) : emptyTo C ms (i + 1) = emptyTo C ms i ++ emptyRow C ms i C := by
  unfold emptyTo
  rw [List.range_succ, List.flatMap_append]
  simp
theorem emptyTo_length (C : Nat) (ms : List Nat) (i : Nat) : (emptyTo C ms i).length ≤ i * C := by
  induction i with
  | zero => simp [emptyTo]
  | succ i ih =>
    rw [emptyTo_succ, List.length_append, Nat.succ_mul]
    have := emptyRow_length C ms i C
    omega
theorem cell_wrap (i C j : Nat) (hi : i ≤ 6) (hC : C ≤ 6) (hj : j ≤ 6) : wrap64 ((wrap64 ((i : Int) * (C : Int))) + (j : Int)) = ((i * C + j : Nat) : Int) := by
  have h : i * C ≤ 6 * 6 := Nat.mul_le_mul hi hC
  have e : (i : Int) * (C : Int) = ((i * C : Nat) : Int) := by simp
  have e2 : wrap64 ((i * C : Nat) : Int) = ((i * C : Nat) : Int) := wrap_ok (by omega) (by omega)
  rw [e, e2, wrap_ok (by omega) (by omega)]
  simp
theorem emptyCells_l0 (R C : Nat) (ms : List Nat) (hR : ms.length = R) (hR6 : R ≤ 6) (hC : C ≤ 6) (hb : ∀ x ∈ ms, x < 64) : ∀ (d k i : Nat), i + d = R → d * (C + 3) < k → impl_Table_emptyCells.l0 k (emptyTo C ms i) (R : Int) (i : Int) (R : Int) (C : Int) (ms.map (fun (x : Nat) => (x : Int))) = some (emptyTo C ms R) := by
  intro d
  induction d with
  | zero =>
    intro k i hi hk
    obtain ⟨k, rfl⟩ : ∃ m, k = m + 1 := ⟨k - 1, by omega⟩
    simp only [impl_Table_emptyCells.l0]
    have e : i = R := by omega
    rw [if_neg (by omega), e]
  | succ d ih =>
    intro k i hi hk
    rw [Nat.succ_mul] at hk
    obtain ⟨k, rfl⟩ : ∃ m, k = m + 1 := ⟨k - 1, by omega⟩
    simp only [impl_Table_emptyCells.l0]
    rw [if_pos (by omega)]
    have inner : ∀ (e k j : Nat), j + e = C → d * (C + 3) + 1 + e < k → impl_Table_emptyCells.l1 k (emptyTo C ms i ++ emptyRow C ms i j) (i : Int) (R : Int) (i : Int) (C : Int) (j : Int) (R : Int) (C : Int) (ms.map (fun (x : Nat) => (x : Int))) = some (emptyTo C ms R) := by
      intro e
      induction e with
      | zero =>
        intro k j hj hk
        obtain ⟨k, rfl⟩ : ∃ m, k = m + 1 := ⟨k - 1, by omega⟩
        simp only [impl_Table_emptyCells.l1]
        have e2 : j = C := by omega
        rw [if_neg (by omega), wrap_ok (by omega) (by omega), show ((i : Int) + 1) = ((i + 1 : Nat) : Int) by omega, e2, ← emptyTo_succ]
        exact ih k (i + 1) (by omega) (by omega)
      | succ e ihe =>
        intro k j hj hk
        obtain ⟨k, rfl⟩ : ∃ m, k = m + 1 := ⟨k - 1, by omega⟩
        simp only [impl_Table_emptyCells.l1]
        have next := ihe k (j + 1) (by omega) (by omega)
        have l1 := emptyTo_length C ms i
        have l2 := emptyRow_length C ms i j
        have l3 : i * C ≤ 6 * 6 := Nat.mul_le_mul (by omega) hC
        rw [if_pos (by omega), marked_k _ _ ms i j hb (by omega) (by omega), wrap_ok (show -9223372036854775808 ≤ (j : Int) + 1 by omega) (by omega), show ((j : Int) + 1) = ((j + 1 : Nat) : Int) by omega, cell_wrap i C j (by omega) hC (by omega)]
        simp only [Option.bind_some]
        rw [emptyRow_succ] at next
        cases hm : mk ms i j
        · rw [if_neg (by simp), if_pos (by simp; omega)]
          simpa [hm] using next
        · rw [if_pos rfl]
          simpa [hm] using next
    have := inner C k 0 (by omega) (by omega)
    simpa [emptyRow] using this
/-- The empty cells. -/
theorem emptyCells_k (R C : Nat) (ms : List Nat) (hR : ms.length = R) (hR6 : R ≤ 6) (hC : C ≤ 6) (hb : ∀ x ∈ ms, x < 64) (k : Nat) (hk : 100 ≤ k) : impl_Table_emptyCells.f k (R : Int) (C : Int) (ms.map (fun (x : Nat) => (x : Int))) = some (emptyTo C ms R) := by
  unfold impl_Table_emptyCells.f
  have h : R * (C + 3) ≤ 6 * 9 := Nat.mul_le_mul hR6 (by omega)
  exact emptyCells_l0 R C ms hR hR6 hC hb R k 0 (by omega) (by omega)
theorem feEmpty_l0 (R C : Nat) (ms : List Nat) (hR : ms.length = R) (hR6 : R ≤ 6) (hC : C ≤ 6) (hb : ∀ x ∈ ms, x < 64) : ∀ (d k i : Nat), i + d = R → d * (C + 3) < k → spec_feEmpty.l0 k (emptyTo C ms i) (ms.map (fun (x : Nat) => (x : Int))) (R : Int) (i : Int) (R : Int) (C : Int) (ms.map (fun (x : Nat) => (x : Int))) = some (emptyTo C ms R) := by
  intro d
  induction d with
  | zero =>
    intro k i hi hk
    obtain ⟨k, rfl⟩ : ∃ m, k = m + 1 := ⟨k - 1, by omega⟩
    simp only [spec_feEmpty.l0]
    have e : i = R := by omega
    rw [if_neg (by omega), e]
  | succ d ih =>
    intro k i hi hk
    rw [Nat.succ_mul] at hk
    obtain ⟨k, rfl⟩ : ∃ m, k = m + 1 := ⟨k - 1, by omega⟩
    simp only [spec_feEmpty.l0]
    rw [if_pos (by omega), if_pos (by omega), if_pos (by simp; omega), rd_map]
    have hx := getD_lt (b := 64) (by omega) hb i
    have inner : ∀ (e k j : Nat), j + e = C → d * (C + 3) + 1 + e < k → spec_feEmpty.l1 k (emptyTo C ms i ++ emptyRow C ms i j) (i : Int) ((ms.getD i 0 : Nat) : Int) (j : Int) (ms.map (fun (x : Nat) => (x : Int))) (R : Int) (i : Int) (R : Int) (C : Int) (ms.map (fun (x : Nat) => (x : Int))) = some (emptyTo C ms R) := by
      intro e
      induction e with
      | zero =>
        intro k j hj hk
        obtain ⟨k, rfl⟩ : ∃ m, k = m + 1 := ⟨k - 1, by omega⟩
        simp only [spec_feEmpty.l1]
        have e2 : j = C := by omega
        rw [if_neg (by omega), wrap_ok (by omega) (by omega), show ((i : Int) + 1) = ((i + 1 : Nat) : Int) by omega, e2, ← emptyTo_succ]
        exact ih k (i + 1) (by omega) (by omega)
      | succ e ihe =>
        intro k j hj hk
        obtain ⟨k, rfl⟩ : ∃ m, k = m + 1 := ⟨k - 1, by omega⟩
        simp only [spec_feEmpty.l1]
        have next := ihe k (j + 1) (by omega) (by omega)
        have l1 := emptyTo_length C ms i
        have l2 := emptyRow_length C ms i j
        have l3 : i * C ≤ 6 * 6 := Nat.mul_le_mul (by omega) hC
        rw [if_pos (by omega), orHas_k _ j (by omega), wrap_ok (show -9223372036854775808 ≤ (j : Int) + 1 by omega) (by omega), show ((j : Int) + 1) = ((j + 1 : Nat) : Int) by omega, cell_wrap i C j (by omega) hC (by omega)]
        simp only [Option.bind_some]
        rw [emptyRow_succ] at next
        have em : (ms.getD i 0).testBit j = mk ms i j := rfl
        rw [em]
        cases hm : mk ms i j
        · rw [if_neg (by simp), if_pos (by simp; omega)]
          simpa [hm] using next
        · rw [if_pos rfl]
          simpa [hm] using next
    have := inner C k 0 (by omega) (by omega)
    simpa [emptyRow] using this
theorem feEmpty_k (R C : Nat) (ms : List Nat) (hR : ms.length = R) (hR6 : R ≤ 6) (hC : C ≤ 6) (hb : ∀ x ∈ ms, x < 64) (k : Nat) (hk : 100 ≤ k) : spec_feEmpty.f k (R : Int) (C : Int) (ms.map (fun (x : Nat) => (x : Int))) = some (emptyTo C ms R) := by
  unfold spec_feEmpty.f
  have h : R * (C + 3) ≤ 6 * 9 := Nat.mul_le_mul hR6 (by omega)
  have e : (((ms.map (fun (x : Nat) => (x : Int))).length : Nat) : Int) = (R : Int) := by simp; omega
  rw [e]
  exact feEmpty_l0 R C ms hR hR6 hC hb R k 0 (by omega) (by omega)

/-! A loop that looks for the first index for which something is told: what it tells with enough rounds. -/
/-- One round of such a loop: what is told ends it; else it goes on. -/
def Step {α : Type} (F : Nat → Nat → Option α) (G : Nat → Option α) (c i : Nat) : Prop :=
  (∀ v, G i = some v → ∀ k, c ≤ k → F (k + 1) i = some v) ∧ (G i = none → ∀ K r, (∀ k, K ≤ k → F k (i + 1) = some r) → ∀ k, K + c ≤ k → F (k + 1) i = some r)
theorem search {α : Type} (F : Nat → Nat → Option α) (n c : Nat) (G : Nat → Option α) (h : ∀ i, i < n → Step F G c i) :
    ∀ e i, i + e = n → (∀ v, (List.range' i e).findSome? G = some v → ∀ k, e * (c + 1) ≤ k → F k i = some v) ∧
      ((List.range' i e).findSome? G = none → ∀ K r, (∀ k, K ≤ k → F k n = some r) → ∀ k, K + e * (c + 1) ≤ k → F k i = some r) := by
  intro e
  induction e with
  | zero =>
    intro i hi
    have e0 : i = n := by omega
    subst e0
    exact ⟨fun v h => by simp at h, fun _ K r h k hk => h k (by omega)⟩
  | succ e ih =>
    intro i hi
    obtain ⟨ihA, ihB⟩ := ih (i + 1) (by omega)
    obtain ⟨hb, hs⟩ := h i (by omega)
    rw [List.range'_succ, List.findSome?_cons]
    refine ⟨fun v h k hk => ?_, fun h K r hr k hk => ?_⟩
    · rw [Nat.succ_mul] at hk
      obtain ⟨k, rfl⟩ : ∃ m, k = m + 1 := ⟨k - 1, by omega⟩
      cases hG : G i with
      | some w =>
        rw [hG] at h
        exact hb v (by rw [hG]; exact h) k (by omega)
      | none =>
        rw [hG] at h
        exact hs hG (e * (c + 1)) v (fun k hk => ihA v h k hk) k (by omega)
    · rw [Nat.succ_mul] at hk
      obtain ⟨k, rfl⟩ : ∃ m, k = m + 1 := ⟨k - 1, by omega⟩
      cases hG : G i with
      | some w =>
        rw [hG] at h
        cases h
      | none =>
        rw [hG] at h
        exact hs hG (K + e * (c + 1)) r (fun k hk => ihB h K r hr k hk) k (by omega)
/-- A loop within a loop: the outer one's round is the inner one from its start; at its end it goes on. -/
theorem search2 {α : Type} {F I : Nat → Nat → Option α} {m c : Nat} {G : Nat → Option α} {GO : Nat → Option α} {i : Nat} (b : Nat)
    (h : ∀ j, j < m → Step I G c j) (hG : GO i = (List.range' 0 m).findSome? G) (hin : ∀ k, b ≤ k → F (k + 1) i = I k 0) (hout : ∀ k, I (k + 1) m = F k (i + 1)) : Step F GO (b + m * (c + 1) + 1) i := by
  obtain ⟨hA, hB⟩ := search I m c G h m 0 (by omega)
  unfold Step
  rw [hG]
  refine ⟨fun v h k hk => ?_, fun h K r hr k hk => ?_⟩
  · rw [hin k (by omega)]
    exact hA v h k (by omega)
  · rw [hin k (by omega)]
    refine hB h (K + 1) r (fun k hk => ?_) k (by omega)
    obtain ⟨k, rfl⟩ : ∃ q, k = q + 1 := ⟨k - 1, by omega⟩
    rw [hout]
    exact hr k (by omega)
/-- A whole search: the first that is told, or what stands at the end. -/
theorem search0 {α : Type} {F : Nat → Nat → Option α} {n c : Nat} {G : Nat → Option α} (h : ∀ i, i < n → Step F G c i) (z : α) (hz : ∀ k, F (k + 1) n = some z) (k : Nat) (hk : n * (c + 1) + 1 ≤ k) :
    F k 0 = some (((List.range' 0 n).findSome? G).getD z) := by
  obtain ⟨hA, hB⟩ := search F n c G h n 0 (by omega)
  cases h0 : (List.range' 0 n).findSome? G with
  | some v => exact hA v h0 k (by omega)
  | none =>
    refine hB h0 1 z (fun k hk => ?_) k (by omega)
    obtain ⟨k, rfl⟩ : ∃ q, k = q + 1 := ⟨k - 1, by omega⟩
    exact hz k
theorem nat_succ (i : Nat) : ((i : Int) + 1) = ((i + 1 : Nat) : Int) := by omega
theorem fs_none {α : Type} (n : Nat) (G : Nat → Option α) : (List.range' 0 n).findSome? G = none ↔ ∀ i, i < n → G i = none := by
  rw [List.findSome?_eq_none_iff]
  constructor
  · intro h i hi
    exact h i (by rw [List.mem_range']; exact ⟨i, hi, by omega⟩)
  · intro h x hx
    rw [List.mem_range'] at hx
    obtain ⟨i, hi, e⟩ := hx
    exact h x (by omega)
theorem fs_some {α : Type} (n : Nat) (G : Nat → Option α) (v : α) (h : (List.range' 0 n).findSome? G = some v) : ∃ i, i < n ∧ G i = some v := by
  obtain ⟨x, hx, hv⟩ := List.exists_of_findSome?_eq_some h
  rw [List.mem_range'] at hx
  obtain ⟨i, hi, e⟩ := hx
  exact ⟨x, by omega, hv⟩

/-- Four cells that refuse a table. -/
def four (ms : List Nat) (r c s d : Nat) : Bool := mk ms r c && !mk ms r d && mk ms s d && !mk ms s c
def four4 (ms : List Nat) (r c s d : Nat) : Option (List Int) := if four ms r c s d = true then some [(r : Int), (c : Int), (s : Int), (d : Int)] else none
def four3 (C : Nat) (ms : List Nat) (r c s : Nat) : Option (List Int) := (List.range' 0 C).findSome? (four4 ms r c s)
def four2 (R C : Nat) (ms : List Nat) (r c : Nat) : Option (List Int) := (List.range' 0 R).findSome? (four3 C ms r c)
def four1 (R C : Nat) (ms : List Nat) (r : Nat) : Option (List Int) := (List.range' 0 C).findSome? (four2 R C ms r)
def four0 (R C : Nat) (ms : List Nat) : Option (List Int) := (List.range' 0 R).findSome? (four1 R C ms)
abbrev asInts (ms : List Nat) : List Int := ms.map (fun (x : Nat) => (x : Int))
theorem four_bound (R C : Nat) (hR6 : R ≤ 6) (hC : C ≤ 6) : R * (0 + C * (0 + R * (0 + C * (0 + 1) + 1 + 1) + 1 + 1) + 1 + 1) + 1 ≤ 4000 := by
  have h1 : C * (0 + 1) ≤ 6 * (0 + 1) := Nat.mul_le_mul hC (Nat.le_refl _)
  have h2 : R * (0 + C * (0 + 1) + 1 + 1) ≤ 6 * (0 + 6 * (0 + 1) + 1 + 1) := Nat.mul_le_mul hR6 (by omega)
  have h3 : C * (0 + R * (0 + C * (0 + 1) + 1 + 1) + 1 + 1) ≤ 6 * (0 + 6 * (0 + 6 * (0 + 1) + 1 + 1) + 1 + 1) := Nat.mul_le_mul hC (by omega)
  have h4 : R * (0 + C * (0 + R * (0 + C * (0 + 1) + 1 + 1) + 1 + 1) + 1 + 1) ≤ 6 * (0 + 6 * (0 + 6 * (0 + 6 * (0 + 1) + 1 + 1) + 1 + 1) + 1 + 1) := Nat.mul_le_mul hR6 (by omega)
  omega
theorem four0_ne (R C : Nat) (ms : List Nat) (v : List Int) (h : four0 R C ms = some v) : v ≠ [] := by
  unfold four0 at h
  obtain ⟨i, _, h1⟩ := fs_some _ _ _ h
  unfold four1 at h1
  obtain ⟨j, _, h2⟩ := fs_some _ _ _ h1
  unfold four2 at h2
  obtain ⟨i, _, h3⟩ := fs_some _ _ _ h2
  unfold four3 at h3
  obtain ⟨i, _, h4⟩ := fs_some _ _ _ h3
  unfold four4 at h4
  split at h4
  · injection h4 with h4
    rw [← h4]
    simp
  · cases h4
theorem four_len (R C : Nat) (ms : List Nat) : ((four0 R C ms).getD []).length ≤ 4 := by
  cases h : four0 R C ms with
  | none => simp
  | some v =>
    unfold four0 at h
    obtain ⟨i, _, h1⟩ := fs_some _ _ _ h
    unfold four1 at h1
    obtain ⟨j, _, h2⟩ := fs_some _ _ _ h1
    unfold four2 at h2
    obtain ⟨i, _, h3⟩ := fs_some _ _ _ h2
    unfold four3 at h3
    obtain ⟨i, _, h4⟩ := fs_some _ _ _ h3
    unfold four4 at h4
    split at h4
    · injection h4 with h4
      rw [← h4]
      simp
    · cases h4

/-- Is a row's number at least a column's? -/
def scP (A B : List Int) (r c : Nat) : Bool := decide (rd B (c : Int) ≤ rd A (r : Int))
theorem sub_len : ∀ (l m : List Nat), l.Nodup → (∀ x ∈ l, x ∈ m) → l.length ≤ m.length := by
  intro l
  induction l with
  | nil => intro m _ _; simp
  | cons a l ih =>
    intro m hn hs
    rw [List.nodup_cons] at hn
    have h1 := ih (m.erase a) hn.2 (fun x hx => (List.mem_erase_of_ne (fun e => hn.1 (by rw [← e]; exact hx))).2 (hs x (List.mem_cons_of_mem _ hx)))
    have h2 := List.length_erase_of_mem (hs a List.mem_cons_self)
    have h3 : 1 ≤ m.length := List.length_pos_of_mem (hs a List.mem_cons_self)
    simp only [List.length_cons]
    omega
/-- The order is right: each row comes once, and behind the rows of the cells whose columns it marks. -/
def OrdOK (C : Nat) (ms cs o : List Nat) : Prop := o.Nodup ∧ ∀ j, j < o.length → ∀ q, q < cs.length → mk ms (o.getD j 0) (cs.getD q 0 % C) = true → (cs.getD q 0 / C) ∈ o.take j
theorem ready_facts {C : Nat} {ms cs out : List Nat} {r : Nat} : ready C ms cs out r = true ↔ r ∉ out ∧ ∀ q, q < cs.length → mk ms r (cs.getD q 0 % C) = true → (cs.getD q 0 / C) ∈ out := by
  unfold ready
  rw [Bool.and_eq_true, List.all_eq_true]
  constructor
  · rintro ⟨h1, h2⟩
    refine ⟨by simpa using h1, fun q hq hm => ?_⟩
    have := h2 q (by rw [List.mem_range']; exact ⟨q, hq, by omega⟩)
    rw [hm] at this
    simpa using this
  · rintro ⟨h1, h2⟩
    refine ⟨by simpa using h1, fun q hq => ?_⟩
    rw [List.mem_range'] at hq
    obtain ⟨i, hi, e⟩ := hq
    have ei : q = i := by omega
    subst ei
    cases hm : mk ms r (cs.getD q 0 % C)
    · rfl
    · simpa using h2 q hi hm
theorem ordOK_snoc {C : Nat} {ms cs out : List Nat} {r : Nat} (h : OrdOK C ms cs out) (hr : ready C ms cs out r = true) : OrdOK C ms cs (out ++ [r]) := by
  obtain ⟨h1, h2⟩ := ready_facts.1 hr
  refine ⟨?_, ?_⟩
  · rw [List.nodup_append]
    refine ⟨h.1, by simp, ?_⟩
    intro a ha b hb
    have : b = r := by simpa using hb
    rw [this]
    exact fun e => h1 (by rw [← e]; exact ha)
  · intro j hj q hq hm
    have hj2 : j < out.length + 1 := by simpa using hj
    by_cases hjl : j < out.length
    · have e1 : (out ++ [r]).getD j 0 = out.getD j 0 := by
        simp only [List.getD_eq_getElem?_getD]
        rw [List.getElem?_append_left hjl]
      rw [e1] at hm
      have := h.2 j hjl q hq hm
      rw [List.take_append_of_le_length (by omega)]
      exact this
    · have ej : j = out.length := by omega
      subst ej
      have e1 : (out ++ [r]).getD out.length 0 = r := by simp [List.getD_eq_getElem?_getD]
      rw [e1] at hm
      have := h2 q hq hm
      rw [List.take_append_of_le_length (by omega), List.take_of_length_le (by omega)]
      exact this
theorem orderFrom_ok (R C : Nat) (ms cs : List Nat) : ∀ d out l, OrdOK C ms cs out → orderFrom R C ms cs d out = some l → OrdOK C ms cs l := by
  intro d
  induction d with
  | zero =>
    intro out l h e
    simp only [orderFrom, Option.some.injEq] at e
    rw [← e]
    exact h
  | succ d ih =>
    intro out l h e
    simp only [orderFrom] at e
    cases hp : pick R C ms cs out with
    | none => simp [hp] at e
    | some r =>
      rw [hp] at e
      exact ih _ l (ordOK_snoc h (List.find?_some hp)) e
theorem all_rows (R : Nat) (o : List Nat) (hn : o.Nodup) (hl : o.length = R) (ho : ∀ s ∈ o, s < R) (r : Nat) (hr : r < R) : r ∈ o := by
  apply Classical.byContradiction
  intro h
  have := sub_len (r :: o) (List.range R) (List.nodup_cons.2 ⟨h, hn⟩) (fun x hx => by
    rw [List.mem_range]
    rcases List.mem_cons.1 hx with e | e
    · omega
    · exact ho x e)
  simp at this
  omega
theorem mem_getD (o : List Nat) (r : Nat) (h : r ∈ o) : ∃ j, j < o.length ∧ o.getD j 0 = r := by
  obtain ⟨j, hj, e⟩ := List.getElem_of_mem h
  exact ⟨j, hj, by rw [List.getD_eq_getElem?_getD, List.getElem?_eq_getElem hj, e]; rfl⟩
theorem getD_mem (o : List Nat) (j : Nat) (h : j < o.length) : o.getD j 0 ∈ o := by
  rw [List.getD_eq_getElem?_getD, List.getElem?_eq_getElem h]
  exact List.getElem_mem h
theorem take_getD (o : List Nat) (j r : Nat) (h : r ∈ o.take j) : ∃ k, k < j ∧ k < o.length ∧ o.getD k 0 = r := by
  obtain ⟨k, hk, e⟩ := mem_getD _ r h
  rw [List.length_take] at hk
  refine ⟨k, by omega, by omega, ?_⟩
  rw [← e]
  simp only [List.getD_eq_getElem?_getD]
  rw [List.getElem?_take_of_lt (by omega)]
theorem getD_inj (o : List Nat) (hn : o.Nodup) (i j : Nat) (hi : i < o.length) (hj : j < o.length) (e : o.getD i 0 = o.getD j 0) : i = j := by
  rw [List.getD_eq_getElem?_getD, List.getElem?_eq_getElem hi, List.getD_eq_getElem?_getD, List.getElem?_eq_getElem hj] at e
  exact (List.getElem_inj hn).1 e
/-- Fewer cells: an order is found, too. -/
theorem orderFrom_fewer (R C : Nat) (ms cs cs' o : List Nat) (hl : o.length = R) (ho : ∀ s ∈ o, s < R) (hok : OrdOK C ms cs o) (hsub : ∀ x ∈ cs', x ∈ cs) : ∀ d out, out.length + d = R → (orderFrom R C ms cs' d out).isSome = true := by
  intro d
  induction d with
  | zero => intro out _; rfl
  | succ d ih =>
    intro out hd
    have first : ∀ j, j ≤ o.length → (∀ k, k < j → o.getD k 0 ∈ out) ∨ ∃ j', j' < j ∧ o.getD j' 0 ∉ out ∧ ∀ k, k < j' → o.getD k 0 ∈ out := by
      intro j
      induction j with
      | zero => intro _; exact .inl (fun k hk => by omega)
      | succ j ihj =>
        intro hj
        rcases ihj (by omega) with h | ⟨j', h1, h2⟩
        · by_cases hm : o.getD j 0 ∈ out
          · refine .inl fun k hk => ?_
            by_cases e : k = j
            · rw [e]; exact hm
            · exact h k (by omega)
          · exact .inr ⟨j, by omega, hm, h⟩
        · exact .inr ⟨j', by omega, h2⟩
    rcases first o.length (Nat.le_refl _) with h | ⟨j, hj, hn, hk⟩
    · have := sub_len o out hok.1 (fun x hx => by
        obtain ⟨j, hj, e⟩ := mem_getD o x hx
        rw [← e]
        exact h j hj)
      omega
    · have hr : ready C ms cs' out (o.getD j 0) = true := by
        rw [ready_facts]
        refine ⟨hn, fun q hq hm => ?_⟩
        obtain ⟨q', hq', e⟩ := mem_getD cs _ (hsub _ (getD_mem cs' q hq))
        rw [← e] at hm ⊢
        obtain ⟨k, hk1, _, hk3⟩ := take_getD o j _ (hok.2 j hj q' hq' hm)
        rw [← hk3]
        exact hk k hk1
      rw [orderFrom]
      cases hp : pick R C ms cs' out with
      | none =>
        unfold pick at hp
        have := List.find?_eq_none.1 hp (o.getD j 0) (by rw [List.mem_range']; exact ⟨o.getD j 0, ho _ (getD_mem o j hj), by omega⟩)
        exact absurd hr this
      | some r =>
        simp only [Option.bind_some]
        exact ih (out ++ [r]) (by simp; omega)
/-- The marks of the first i rows of an order. -/
def upTo (ms o : List Nat) : Nat → Nat
  | 0 => 0
  | i + 1 => upTo ms o i ||| ms.getD (o.getD i 0) 0
/-- The rows of a cover. -/
def covN (R : Nat) (ms o : List Nat) : Nat → List Nat
  | 0 => List.replicate R 0
  | i + 1 => (covN R ms o i).set (o.getD i 0) (upTo ms o (i + 1))
theorem covN_length (R : Nat) (ms o : List Nat) (i : Nat) : (covN R ms o i).length = R := by
  induction i with
  | zero => simp [covN]
  | succ i ih => simp [covN, ih]
theorem upTo_lt (c : Nat) (ms o : List Nat) (hb : ∀ x ∈ ms, x < 2 ^ c) (i : Nat) : upTo ms o i < 2 ^ c := by
  induction i with
  | zero => exact Nat.two_pow_pos _
  | succ i ih => exact Nat.or_lt_two_pow ih (getD_lt (Nat.two_pow_pos _) hb _)
theorem upTo_bit (ms o : List Nat) (i c : Nat) : (upTo ms o i).testBit c = true ↔ ∃ j, j < i ∧ (ms.getD (o.getD j 0) 0).testBit c = true := by
  induction i with
  | zero => simp [upTo]
  | succ i ih =>
    rw [upTo, Nat.testBit_or, Bool.or_eq_true, ih]
    constructor
    · rintro (⟨j, h1, h2⟩ | h)
      · exact ⟨j, by omega, h2⟩
      · exact ⟨i, by omega, h⟩
    · rintro ⟨j, h1, h2⟩
      by_cases e : j = i
      · subst e
        exact .inr h2
      · exact .inl ⟨j, by omega, h2⟩
theorem covN_get (R : Nat) (ms o : List Nat) (hn : o.Nodup) (ho : ∀ s ∈ o, s < R) : ∀ i, i ≤ o.length → ∀ j, j < i → (covN R ms o i).getD (o.getD j 0) 0 = upTo ms o (j + 1) := by
  intro i
  induction i with
  | zero => intro _ j hj; omega
  | succ i ih =>
    intro hi j hj
    rw [covN]
    have hoi : o.getD i 0 < R := ho _ (getD_mem o i (by omega))
    by_cases e : j = i
    · subst e
      rw [List.getD_eq_getElem?_getD, List.getElem?_set_self (by rw [covN_length]; exact hoi)]
      rfl
    · have hne : o.getD i 0 ≠ o.getD j 0 := fun h => e (getD_inj o hn i j (by omega) (by omega) h).symm
      rw [List.getD_eq_getElem?_getD, List.getElem?_set_ne hne, ← List.getD_eq_getElem?_getD]
      exact ih (by omega) j (by omega)
theorem covN_lt (R c : Nat) (ms o : List Nat) (hb : ∀ x ∈ ms, x < 2 ^ c) (i : Nat) : ∀ x ∈ covN R ms o i, x < 2 ^ c := by
  induction i with
  | zero =>
    intro x hx
    rw [covN] at hx
    have := List.eq_of_mem_replicate hx
    rw [this]
    exact Nat.two_pow_pos _
  | succ i ih =>
    intro x hx
    rw [covN] at hx
    rcases List.mem_or_eq_of_mem_set hx with h | h
    · exact ih x h
    · rw [h]
      exact upTo_lt c ms o hb (i + 1)
theorem cover_l0 (R C : Nat) (ms o : List Nat) (hR : ms.length = R) (hC : C ≤ 6) (hb : ∀ x ∈ ms, x < 2 ^ C) (ho : ∀ s ∈ o, s < R) (hl : o.length ≤ 6) : ∀ (d k i : Nat), i + d = o.length → d < k →
    impl_Table_cover.l0 k ((upTo ms o i : Nat) : Int) (o.map (fun (x : Nat) => (x : Int))) (o.length : Int) (i : Int) (R : Int) (C : Int) (ms.map (fun (x : Nat) => (x : Int))) (R : Int) (C : Int) ((covN R ms o i).map (fun (x : Nat) => (x : Int))) = some ((R : Int), (C : Int), (covN R ms o o.length).map (fun (x : Nat) => (x : Int))) ∧
    spec_feCover.l0 k ((upTo ms o i : Nat) : Int) (o.map (fun (x : Nat) => (x : Int))) (o.length : Int) (i : Int) (R : Int) (C : Int) (ms.map (fun (x : Nat) => (x : Int))) (R : Int) (C : Int) ((covN R ms o i).map (fun (x : Nat) => (x : Int))) = some ((R : Int), (C : Int), (covN R ms o o.length).map (fun (x : Nat) => (x : Int))) := by
  intro d
  induction d with
  | zero =>
    intro k i hi hk
    obtain ⟨k, rfl⟩ : ∃ m, k = m + 1 := ⟨k - 1, by omega⟩
    simp only [impl_Table_cover.l0, spec_feCover.l0]
    have e : i = o.length := by omega
    rw [if_neg (by omega), if_neg (by omega), e]
    exact ⟨rfl, rfl⟩
  | succ d ih =>
    intro k i hi hk
    obtain ⟨k, rfl⟩ : ∃ m, k = m + 1 := ⟨k - 1, by omega⟩
    simp only [impl_Table_cover.l0, spec_feCover.l0]
    have lo : ((o.map (fun (x : Nat) => (x : Int))).length : Int) = (o.length : Int) := by simp
    have lm : ((ms.map (fun (x : Nat) => (x : Int))).length : Int) = (R : Int) := by simp [hR]
    have lv : (((covN R ms o i).map (fun (x : Nat) => (x : Int))).length : Int) = (R : Int) := by simp [covN_length]
    have h2 : 2 ^ C ≤ 2 ^ 6 := Nat.pow_le_pow_right (by omega) hC
    have a1 := upTo_lt C ms o hb i
    have a2 := getD_lt (Nat.two_pow_pos C) hb (o.getD i 0)
    have ho2 : o.getD i 0 < R := ho _ (getD_mem o i (by omega))
    have e3 : ((o.getD i 0 : Nat) : Int).toNat = o.getD i 0 := by omega
    have next := ih k (i + 1) (by omega) (by omega)
    have es : ((covN R ms o i).map (fun (x : Nat) => (x : Int))).set (o.getD i 0) ((upTo ms o i ||| ms.getD (o.getD i 0) 0 : Nat) : Int) = (covN R ms o (i + 1)).map (fun (x : Nat) => (x : Int)) := by
      rw [covN, List.map_set]
      rfl
    rw [rd_map, rd_map, or_nat _ _ (by omega) (by omega), wrap_ok (by omega) (by omega), show ((i : Int) + 1) = ((i + 1 : Nat) : Int) by omega, e3, es, if_pos (by omega), if_pos (by omega), if_pos (by omega), if_pos (by omega), if_pos (by omega), if_pos (by omega), if_pos (by omega), if_pos (by omega), if_pos (by omega), if_pos (by omega), if_pos (by omega), if_pos (by omega)]
    exact next
theorem cover_k (R C : Nat) (ms o : List Nat) (hR : ms.length = R) (hR6 : R ≤ 6) (hC : C ≤ 6) (hb : ∀ x ∈ ms, x < 2 ^ C) (ho : ∀ s ∈ o, s < R) (hl : o.length ≤ 6) (k : Nat) (hk : 6 < k) :
    impl_Table_cover.f k (R : Int) (C : Int) (ms.map (fun (x : Nat) => (x : Int))) (o.map (fun (x : Nat) => (x : Int))) = some ((R : Int), (C : Int), (covN R ms o o.length).map (fun (x : Nat) => (x : Int))) ∧
    spec_feCover.f k (R : Int) (C : Int) (ms.map (fun (x : Nat) => (x : Int))) (o.map (fun (x : Nat) => (x : Int))) = some ((R : Int), (C : Int), (covN R ms o o.length).map (fun (x : Nat) => (x : Int))) := by
  unfold impl_Table_cover.f spec_feCover.f
  have e : ((R : Int)).toNat = R := by omega
  have lo : ((o.map (fun (x : Nat) => (x : Int))).length : Int) = (o.length : Int) := by simp
  have er : List.replicate R (0 : Int) = (covN R ms o 0).map (fun (x : Nat) => (x : Int)) := by simp [covN]
  rw [if_pos (by omega), if_pos (by omega), if_pos (by omega), if_pos (by omega), e, lo, er]
  exact cover_l0 R C ms o hR hC hb ho hl o.length k 0 (by omega) (by omega)
/-- What is known of a cover: the rows of the table are in it, no free cell is, and its rows are nested. -/
theorem cover_facts (R C : Nat) (ms cs o : List Nat) (hR : ms.length = R) (hl : o.length = R) (ho : ∀ s ∈ o, s < R) (hok : OrdOK C ms cs o) (hC0 : 1 ≤ C) (hcs : ∀ c ∈ cs, c < R * C) :
    (∀ r c, r < R → mk ms r c = true → mk (covN R ms o o.length) r c = true) ∧ (∀ q, q < cs.length → mk (covN R ms o o.length) (cs.getD q 0 / C) (cs.getD q 0 % C) = false) ∧ (∀ r s c d, r < R → s < R → four (covN R ms o o.length) r c s d = false) := by
  have pos : ∀ r, r < R → ∃ j, j < o.length ∧ o.getD j 0 = r := fun r hr => mem_getD o r (all_rows R o hok.1 hl ho r hr)
  have row : ∀ j, j < o.length → (covN R ms o o.length).getD (o.getD j 0) 0 = upTo ms o (j + 1) := fun j hj => covN_get R ms o hok.1 ho o.length (Nat.le_refl _) j hj
  refine ⟨?_, ?_, ?_⟩
  · intro r c hr hm
    obtain ⟨j, hj, e⟩ := pos r hr
    unfold mk at hm ⊢
    rw [← e, row j hj, upTo_bit]
    exact ⟨j, by omega, by rw [e]; exact hm⟩
  · intro q hq
    have hrow : cs.getD q 0 / C < R := cs_row R C cs hcs q hq
    obtain ⟨j, hj, e⟩ := pos _ hrow
    cases hm : mk (covN R ms o o.length) (cs.getD q 0 / C) (cs.getD q 0 % C)
    · rfl
    · unfold mk at hm
      rw [← e, row j hj, upTo_bit] at hm
      obtain ⟨i, hi, hb⟩ := hm
      obtain ⟨k, hk1, hk2, hk3⟩ := take_getD o i _ (hok.2 i (by omega) q hq hb)
      have := getD_inj o hok.1 k j hk2 hj (by rw [hk3, e])
      omega
  · intro r s c d hr hs
    obtain ⟨i, hi, e⟩ := pos r hr
    obtain ⟨j, hj, f⟩ := pos s hs
    cases h : four (covN R ms o o.length) r c s d
    · rfl
    · unfold four mk at h
      rw [← e, ← f, row i hi, row j hj] at h
      simp only [Bool.and_eq_true, Bool.not_eq_true'] at h
      obtain ⟨⟨⟨f1, f2⟩, f3⟩, f4⟩ := h
      have up : ∀ a b x, a ≤ b → (upTo ms o a).testBit x = true → (upTo ms o b).testBit x = true := by
        intro a b x hab hx
        rw [upTo_bit] at hx ⊢
        obtain ⟨t, ht, hx⟩ := hx
        exact ⟨t, by omega, hx⟩
      rcases Nat.le_total i j with hij | hij
      · have := up (i + 1) (j + 1) c (by omega) f1
        rw [f4] at this
        cases this
      · have := up (j + 1) (i + 1) d (by omega) f3
        rw [f2] at this
        cases this
theorem four0_none (R C : Nat) (ms : List Nat) (h : ∀ r s c d, r < R → s < R → four ms r c s d = false) : four0 R C ms = none := by
  unfold four0
  rw [fs_none]
  intro r hr
  unfold four1
  rw [fs_none]
  intro c _
  unfold four2
  rw [fs_none]
  intro s hs
  unfold four3
  rw [fs_none]
  intro d _
  unfold four4
  rw [h r s c d hr hs]
  rfl

theorem row_self (x n : Nat) (h : x < 2 ^ n) : bitsum x.testBit n = x := by
  apply Nat.eq_of_testBit_eq
  intro i
  rw [bitsum_bit]
  by_cases hi : i < n
  · simp [hi]
  · have : x.testBit i = false := Nat.testBit_lt_two_pow (Nat.lt_of_lt_of_le h (Nat.pow_le_pow_right (by omega) (by omega)))
    simp [this]
theorem meet_sub (r c : Nat) (ms ns : List Nat) (h5 : ms.length = r) (h6 : ∀ x ∈ ms, x < 2 ^ c) (hs : ∀ i j, i < r → mk ms i j = true → mk ns i j = true) : relList r c (fun r c => mk ms r c && mk ns r c) = ms.map (fun (x : Nat) => (x : Int)) := by
  rw [relList_congr (p' := fun i j => mk ms i j) (fun i j hi _ => by
    cases h : mk ms i j
    · rfl
    · rw [hs i j hi h]; rfl)]
  unfold relList
  apply List.ext_getElem
  · simp [h5]
  · intro i hi1 hi2
    have hi : i < r := by simpa using hi1
    simp only [List.getElem_map, List.getElem_range]
    have e : (bitsum (fun j => mk ms i j) c) = ms[i]'(by omega) := by
      have := row_self (ms.getD i 0) c (getD_lt (Nat.two_pow_pos c) h6 i)
      have e2 : ms.getD i 0 = ms[i]'(by omega) := by
        rw [List.getD_eq_getElem?_getD, List.getElem?_eq_getElem (by omega)]
        rfl
      rw [← e2]
      exact this
    exact congrArg (fun (x : Nat) => (x : Int)) e
/-- The cells that a split puts into a part, of the first i. -/
def partTo (es ns : List Nat) (d : Nat) : Nat → List Nat
  | 0 => []
  | i + 1 => if ns.getD i 0 = d then partTo es ns d i ++ [es.getD i 0] else partTo es ns d i
theorem partTo_length (es ns : List Nat) (d : Nat) : ∀ i, (partTo es ns d i).length ≤ i := by
  intro i
  induction i with
  | zero => simp [partTo]
  | succ i ih =>
    rw [partTo]
    split
    · simp; omega
    · omega
theorem partTo_lt (es ns : List Nat) (d b : Nat) (hb : ∀ c ∈ es, c < b) : ∀ i, i ≤ es.length → ∀ c ∈ partTo es ns d i, c < b := by
  intro i
  induction i with
  | zero => intro _ c hc; simp [partTo] at hc
  | succ i ih =>
    intro hi c hc
    rw [partTo] at hc
    split at hc
    · rcases List.mem_append.1 hc with h | h
      · exact ih (by omega) c h
      · have : c = es.getD i 0 := by simpa using h
        rw [this, List.getD_eq_getElem?_getD, List.getElem?_eq_getElem (by omega)]
        exact hb _ (List.getElem_mem _)
    · exact ih (by omega) c hc
theorem partTo_app (es ns : List Nat) (d x : Nat) : ∀ i, i ≤ ns.length → partTo es (ns ++ [x]) d i = partTo es ns d i := by
  intro i
  induction i with
  | zero => intro _; rfl
  | succ i ih =>
    intro hi
    rw [partTo, partTo, ih (by omega)]
    have : (ns ++ [x]).getD i 0 = ns.getD i 0 := by
      simp only [List.getD_eq_getElem?_getD]
      rw [List.getElem?_append_left (by omega)]
    rw [this]
/-- The cells of a part. -/
def partN (es ns : List Nat) (d : Nat) : List Nat := partTo es ns d ns.length
theorem partN_other (es ns : List Nat) (d x : Nat) (h : x ≠ d) : partN es (ns ++ [x]) d = partN es ns d := by
  unfold partN
  rw [List.length_append, List.length_singleton, partTo, partTo_app _ _ _ _ _ (Nat.le_refl _)]
  have : (ns ++ [x]).getD ns.length 0 = x := by simp [List.getD_eq_getElem?_getD]
  rw [this, if_neg h]
theorem fePart_l0 (es ns : List Nat) (d : Nat) (hl : ns.length ≤ es.length) (hs : ns.length ≤ 100) : ∀ (e k i : Nat), i + e = ns.length → e < k →
    spec_fePart.l0 k (es.map (fun (x : Nat) => (x : Int))) (d : Int) ((partTo es ns d i).map (fun (x : Nat) => (x : Int))) (ns.map (fun (x : Nat) => (x : Int))) (ns.length : Int) (i : Int) = some ((partN es ns d).map (fun (x : Nat) => (x : Int))) := by
  intro e
  induction e with
  | zero =>
    intro k i hi hk
    obtain ⟨k, rfl⟩ : ∃ m, k = m + 1 := ⟨k - 1, by omega⟩
    have : i = ns.length := by omega
    subst this
    simp only [spec_fePart.l0]
    rw [if_neg (by omega)]
    rfl
  | succ e ih =>
    intro k i hi hk
    obtain ⟨k, rfl⟩ : ∃ m, k = m + 1 := ⟨k - 1, by omega⟩
    simp only [spec_fePart.l0]
    have next := ih k (i + 1) (by omega) (by omega)
    have hp := partTo_length es ns d i
    rw [partTo] at next
    rw [if_pos (by omega), if_pos (by omega), if_pos (by simp; omega), rd_map, wrap_ok (by omega) (by omega), show ((i : Int) + 1) = ((i + 1 : Nat) : Int) by omega]
    by_cases h : ns.getD i 0 = d
    · rw [if_pos (by omega), if_pos (by simp; omega), if_pos (by simp; omega), rd_map]
      rw [if_pos h] at next
      simpa using next
    · rw [if_neg (by omega)]
      rw [if_neg h] at next
      exact next
theorem fePart_k (es ns : List Nat) (d : Nat) (hl : ns.length ≤ es.length) (hs : ns.length ≤ 100) (k : Nat) (hk : ns.length < k) :
    spec_fePart.f k (es.map (fun (x : Nat) => (x : Int))) (ns.map (fun (x : Nat) => (x : Int))) (d : Int) = some ((partN es ns d).map (fun (x : Nat) => (x : Int))) := by
  unfold spec_fePart.f
  rw [List.length_map]
  exact fePart_l0 es ns d hl hs ns.length k 0 (by omega) hk
theorem cellsWith_l0 (es ns : List Nat) (d : Nat) (hl : ns.length ≤ es.length) (hs : ns.length ≤ 100) : ∀ (e k i : Nat), i + e = ns.length → e < k →
    impl_cellsWith.l0 k (es.map (fun (x : Nat) => (x : Int))) (d : Int) ((partTo es ns d i).map (fun (x : Nat) => (x : Int))) (ns.map (fun (x : Nat) => (x : Int))) (ns.length : Int) (i : Int) = some ((partN es ns d).map (fun (x : Nat) => (x : Int))) := by
  intro e
  induction e with
  | zero =>
    intro k i hi hk
    obtain ⟨k, rfl⟩ : ∃ m, k = m + 1 := ⟨k - 1, by omega⟩
    have : i = ns.length := by omega
    subst this
    simp only [impl_cellsWith.l0]
    rw [if_neg (by omega)]
    rfl
  | succ e ih =>
    intro k i hi hk
    obtain ⟨k, rfl⟩ : ∃ m, k = m + 1 := ⟨k - 1, by omega⟩
    simp only [impl_cellsWith.l0]
    have next := ih k (i + 1) (by omega) (by omega)
    have hp := partTo_length es ns d i
    rw [partTo] at next
    rw [if_pos (by omega), if_pos (by omega), if_pos (by simp; omega), rd_map, wrap_ok (by omega) (by omega), show ((i : Int) + 1) = ((i + 1 : Nat) : Int) by omega]
    by_cases h : ns.getD i 0 = d
    · rw [if_pos (by omega), if_pos (by simp; omega), if_pos (by simp; omega), rd_map]
      rw [if_pos h] at next
      simpa using next
    · rw [if_neg (by omega)]
      rw [if_neg h] at next
      exact next
theorem cellsWith_k (es ns : List Nat) (d : Nat) (hl : ns.length ≤ es.length) (hs : ns.length ≤ 100) (k : Nat) (hk : ns.length < k) :
    impl_cellsWith.f k (es.map (fun (x : Nat) => (x : Int))) (ns.map (fun (x : Nat) => (x : Int))) (d : Int) = some ((partN es ns d).map (fun (x : Nat) => (x : Int))) := by
  unfold impl_cellsWith.f
  rw [List.length_map]
  exact cellsWith_l0 es ns d hl hs ns.length k 0 (by omega) hk
/-- Does an order leave the cells of a part free? -/
def okP (R C : Nat) (ms es ns : List Nat) (d : Nat) : Bool := (orderFrom R C ms (partN es ns d) R []).isSome
/-- The first split that goes on from here. -/
def spl (R C : Nat) (ms es : List Nat) (m : Nat) : Nat → List Nat → Option (List Nat)
  | 0, ns => some ns
  | r + 1, ns => (List.range' 0 m).findSome? fun d => if okP R C ms es (ns ++ [d]) d = true then spl R C ms es m r (ns ++ [d]) else none
theorem spl_length (R C : Nat) (ms es : List Nat) (m : Nat) : ∀ r ns l, spl R C ms es m r ns = some l → l.length = ns.length + r := by
  intro r
  induction r with
  | zero =>
    intro ns l h
    simp only [spl, Option.some.injEq] at h
    rw [← h]
    rfl
  | succ r ih =>
    intro ns l h
    simp only [spl] at h
    obtain ⟨d, _, h2⟩ := List.exists_of_findSome?_eq_some h
    split at h2
    · have := ih _ _ h2
      simp at this
      omega
    · cases h2
theorem free_none (R C : Nat) (ms cs : List Nat) (hR0 : 1 ≤ R) : ((orderFrom R C ms cs R []).getD []).map (fun (x : Nat) => (x : Int)) = [] ↔ (orderFrom R C ms cs R []).isSome = false := by
  cases h : orderFrom R C ms cs R [] with
  | none => simp
  | some l =>
    have := orderFrom_length R C ms cs R [] l h
    cases l with
    | nil => simp at this; omega
    | cons a l => simp
theorem okP_other (R C : Nat) (ms es ns : List Nat) (d x : Nat) (h : x ≠ d) : okP R C ms es (ns ++ [x]) d = okP R C ms es ns d := by
  unfold okP
  rw [partN_other _ _ _ _ h]
theorem map_snoc (ns : List Nat) (x : Nat) : (ns.map (fun (x : Nat) => (x : Int))) ++ [(x : Int)] = (ns ++ [x]).map (fun (x : Nat) => (x : Int)) := by simp
/-- The rounds that r further numbers take. -/
def rounds (r : Nat) : Nat := 2000 + r * 40
theorem split1_k (R C : Nat) (ms es : List Nat) (hR : ms.length = R) (hR0 : 1 ≤ R) (hR6 : R ≤ 6) (hC0 : 1 ≤ C) (hC : C ≤ 6) (hb : ∀ x ∈ ms, x < 64) (hes : ∀ c ∈ es, c < R * C) (he9 : es.length ≤ 9) (m : Nat) (hm : m ≤ 4) : ∀ (r : Nat) (ns : List Nat) (k : Nat), ns.length + r = es.length → rounds r < k →
    impl_Table_split_1.f k (R : Int) (C : Int) (ms.map (fun (x : Nat) => (x : Int))) (es.map (fun (x : Nat) => (x : Int))) (m : Int) (ns.map (fun (x : Nat) => (x : Int))) = some ((spl R C ms es m r ns).map (fun l => l.map (fun (x : Nat) => (x : Int)))) := by
  intro r
  induction r with
  | zero =>
    intro ns k hr hk
    obtain ⟨k, rfl⟩ : ∃ m, k = m + 1 := ⟨k - 1, by omega⟩
    rw [impl_Table_split_1.f, if_pos (by simp; omega)]
    rfl
  | succ r ih =>
    intro ns k hr hk
    unfold rounds at hk
    obtain ⟨k, rfl⟩ : ∃ m, k = m + 1 := ⟨k - 1, by omega⟩
    rw [impl_Table_split_1.f, if_neg (by simp; omega), spl]
    have loop : ∀ (e k i : Nat), i + e = m → rounds r + e + 1 < k →
        impl_Table_split_1.l0 k (R : Int) (C : Int) (ms.map (fun (x : Nat) => (x : Int))) (es.map (fun (x : Nat) => (x : Int))) (m : Int) (ns.map (fun (x : Nat) => (x : Int))) (i : Int) = some (((List.range' i e).findSome? fun d => if okP R C ms es (ns ++ [d]) d = true then spl R C ms es m r (ns ++ [d]) else none).map (fun l => l.map (fun (x : Nat) => (x : Int)))) := by
      intro e
      induction e with
      | zero =>
        intro k i hi hk
        obtain ⟨k, rfl⟩ : ∃ m, k = m + 1 := ⟨k - 1, by omega⟩
        rw [impl_Table_split_1.l0, if_neg (by omega)]
        rfl
      | succ e ihe =>
        intro k i hi hk
        obtain ⟨k, rfl⟩ : ∃ m, k = m + 1 := ⟨k - 1, by omega⟩
        unfold rounds at hk
        have hcl : slices_Clone_int_int.f (ns.map (fun (x : Nat) => (x : Int))) = some (ns.map (fun (x : Nat) => (x : Int))) := by
          unfold slices_Clone_int_int.f
          rw [if_pos (by simp; omega)]
        have hl : (ns ++ [i]).length ≤ es.length := by simp; omega
        have hpl := partTo_length es (ns ++ [i]) i (ns ++ [i]).length
        have hpb := partTo_lt es (ns ++ [i]) i _ hes (ns ++ [i]).length hl
        have hp9 : (partN es (ns ++ [i]) i).length ≤ 9 := by unfold partN; omega
        have next := ihe k (i + 1) (by omega) (by unfold rounds; omega)
        rw [impl_Table_split_1.l0, if_pos (by omega), hcl]
        simp only [Option.bind_some]
        rw [if_pos (by simp; omega), map_snoc, cellsWith_k es _ i hl (by simp; omega) k (by simp; omega)]
        simp only [Option.bind_some]
        rw [freeOrder_k R C ms (partN es (ns ++ [i]) i) hR hR0 hR6 hC0 hC hb hpb (by omega) k (by omega)]
        simp only [Option.bind_some]
        rw [wrap_ok (by omega) (by omega), show ((i : Int) + 1) = ((i + 1 : Nat) : Int) by omega, List.range'_succ, List.findSome?_cons]
        by_cases ho : okP R C ms es (ns ++ [i]) i = true
        · rw [if_neg (fun h => by have := (free_none R C ms _ hR0).1 h; unfold okP partN at ho; unfold partN at this; rw [this] at ho; cases ho), if_pos ho, ih (ns ++ [i]) k (by simp; omega) (by unfold rounds; omega)]
          cases hs : spl R C ms es m r (ns ++ [i]) with
          | none => exact next
          | some l => rfl
        · rw [if_pos ((free_none R C ms _ hR0).2 (by unfold okP partN at ho; exact Bool.eq_false_iff.2 ho)), if_neg ho]
          exact next
    exact loop m k 0 (by omega) (by unfold rounds; omega)
theorem l1Own_small (l : List Int) (h : l.length ≤ 1000) : spec_l1Own.f l = some l := by
  unfold spec_l1Own.f
  simp only [Option.bind_some, List.nil_append, List.length_nil]
  rw [if_pos (by omega)]
/-- What the reference hands back. -/
def handed : Option (List Nat) → List Int × Bool
  | none => ([], false)
  | some l => (l.map (fun (x : Nat) => (x : Int)), true)
theorem feSplit_check (R C : Nat) (ms es : List Nat) (hR : ms.length = R) (hR6 : R ≤ 6) (hC0 : 1 ≤ C) (hC : C ≤ 6) (hb : ∀ x ∈ ms, x < 64) (hes : ∀ c ∈ es, c < R * C) (he9 : es.length ≤ 9) (m : Nat) (hm : m ≤ 4) (ns : List Nat) (hl : ns.length ≤ es.length) (K : Nat) (hK : 1500 ≤ K) (W : List Int × Bool)
    (hW : ∀ k, K < k → spec_feSplit.l0 k (es.map (fun (x : Nat) => (x : Int))) (ns.map (fun (x : Nat) => (x : Int))) (m : Int) (m : Int) (R : Int) (C : Int) (ms.map (fun (x : Nat) => (x : Int))) = some W) : ∀ (e k i : Nat), i + e = m → K + e < k →
    spec_feSplit.l0 k (es.map (fun (x : Nat) => (x : Int))) (ns.map (fun (x : Nat) => (x : Int))) (m : Int) (i : Int) (R : Int) (C : Int) (ms.map (fun (x : Nat) => (x : Int))) = some (if (List.range' i e).all (fun d => okP R C ms es ns d) = true then W else ([], false)) := by
  intro e
  induction e with
  | zero =>
    intro k i hi hk
    have : i = m := by omega
    subst this
    rw [hW k (by omega)]
    rfl
  | succ e ih =>
    intro k i hi hk
    obtain ⟨k, rfl⟩ : ∃ m, k = m + 1 := ⟨k - 1, by omega⟩
    have hpl := partTo_length es ns i ns.length
    have hpb := partTo_lt es ns i _ hes ns.length hl
    have hp9 : (partN es ns i).length ≤ 9 := by unfold partN; omega
    rw [spec_feSplit.l0, if_pos (by omega), fePart_k es ns i hl (by omega) k (by omega)]
    simp only [Option.bind_some]
    rw [feOrder_k R C ms (partN es ns i) hR hR6 hC0 hC hb hpb (by omega) k (by omega)]
    simp only [Option.bind_some]
    rw [wrap_ok (by omega) (by omega), show ((i : Int) + 1) = ((i + 1 : Nat) : Int) by omega, ih k (i + 1) (by omega) (by omega), List.range'_succ, List.all_cons]
    have ho : okP R C ms es ns i = (orderFrom R C ms (partN es ns i) R []).isSome := rfl
    cases h0 : orderFrom R C ms (partN es ns i) R [] with
    | none => rw [h0] at ho; rw [ho]; simp
    | some l =>
      rw [h0] at ho
      have ho2 : okP R C ms es ns i = true := ho
      rw [ho2, Bool.true_and]
      rfl
theorem feSplit_k (R C : Nat) (ms es : List Nat) (hR : ms.length = R) (hR0 : 1 ≤ R) (hR6 : R ≤ 6) (hC0 : 1 ≤ C) (hC : C ≤ 6) (hb : ∀ x ∈ ms, x < 64) (hes : ∀ c ∈ es, c < R * C) (he9 : es.length ≤ 9) (m : Nat) (hm : m ≤ 4) : ∀ (r : Nat) (ns : List Nat) (k : Nat), ns.length + r = es.length → rounds r < k →
    spec_feSplit.f k (R : Int) (C : Int) (ms.map (fun (x : Nat) => (x : Int))) (es.map (fun (x : Nat) => (x : Int))) (ns.map (fun (x : Nat) => (x : Int))) (m : Int) = some (if (List.range' 0 m).all (fun d => okP R C ms es ns d) = true then handed (spl R C ms es m r ns) else ([], false)) := by
  intro r
  induction r with
  | zero =>
    intro ns k hr hk
    unfold rounds at hk
    obtain ⟨k, rfl⟩ : ∃ m, k = m + 1 := ⟨k - 1, by omega⟩
    rw [spec_feSplit.f]
    refine feSplit_check R C ms es hR hR6 hC0 hC hb hes he9 m hm ns (by omega) 1500 (by omega) _ ?_ m k 0 (by omega) (by omega)
    intro k hk
    obtain ⟨k, rfl⟩ : ∃ m, k = m + 1 := ⟨k - 1, by omega⟩
    rw [spec_feSplit.l0, if_neg (by omega), if_pos (by simp; omega)]
    rfl
  | succ r ih =>
    intro ns k hr hk
    unfold rounds at hk
    obtain ⟨k, rfl⟩ : ∃ m, k = m + 1 := ⟨k - 1, by omega⟩
    rw [spec_feSplit.f]
    by_cases hall : (List.range' 0 m).all (fun d => okP R C ms es ns d) = true
    · have hall' : ∀ d, d < m → okP R C ms es ns d = true := by
        intro d hd
        exact List.all_eq_true.1 hall d (by rw [List.mem_range']; exact ⟨d, hd, by omega⟩)
      have hch := feSplit_check R C ms es hR hR6 hC0 hC hb hes he9 m hm ns (by omega) (rounds r + 10) (by unfold rounds; omega) (handed (spl R C ms es m (r + 1) ns)) ?_ m k 0 (by omega) (by unfold rounds; omega)
      · exact hch
      intro k hk
      obtain ⟨k, rfl⟩ : ∃ m, k = m + 1 := ⟨k - 1, by omega⟩
      rw [spec_feSplit.l0, if_neg (by omega), if_neg (by simp; omega), spl]
      have loop : ∀ (e k i : Nat), i + e = m → rounds r + e + 1 < k →
          spec_feSplit.l1 k (es.map (fun (x : Nat) => (x : Int))) (ns.map (fun (x : Nat) => (x : Int))) (m : Int) (i : Int) (R : Int) (C : Int) (ms.map (fun (x : Nat) => (x : Int))) = some (handed ((List.range' i e).findSome? fun d => if okP R C ms es (ns ++ [d]) d = true then spl R C ms es m r (ns ++ [d]) else none)) := by
        intro e
        induction e with
        | zero =>
          intro k i hi hk
          obtain ⟨k, rfl⟩ : ∃ m, k = m + 1 := ⟨k - 1, by omega⟩
          rw [spec_feSplit.l1, if_neg (by omega)]
          rfl
        | succ e ihe =>
          intro k i hi hk
          obtain ⟨k, rfl⟩ : ∃ m, k = m + 1 := ⟨k - 1, by omega⟩
          have next := ihe k (i + 1) (by omega) (by omega)
          rw [spec_feSplit.l1, if_pos (by omega), l1Own_small _ (by simp; omega)]
          simp only [Option.bind_some]
          rw [if_pos (by simp; omega), map_snoc, ih (ns ++ [i]) k (by simp; omega) (by omega)]
          simp only [Option.bind_some]
          rw [wrap_ok (by omega) (by omega), show ((i : Int) + 1) = ((i + 1 : Nat) : Int) by omega, next, List.range'_succ, List.findSome?_cons]
          by_cases ho : okP R C ms es (ns ++ [i]) i = true
          · have ha : (List.range' 0 m).all (fun d => okP R C ms es (ns ++ [i]) d) = true := by
              rw [List.all_eq_true]
              intro d hd
              rw [List.mem_range'] at hd
              obtain ⟨j, hj, e1⟩ := hd
              by_cases hdi : i = d
              · rw [← hdi]; exact ho
              · rw [okP_other R C ms es ns d i hdi]
                exact hall' d (by omega)
            rw [if_pos ha, if_pos ho]
            cases hs : spl R C ms es m r (ns ++ [i]) with
            | none => rfl
            | some l => rfl
          · have ha : ¬ (List.range' 0 m).all (fun d => okP R C ms es (ns ++ [i]) d) = true := by
              intro h
              exact ho (List.all_eq_true.1 h i (by rw [List.mem_range']; exact ⟨i, by omega, by omega⟩))
            rw [if_neg ha, if_neg ho]
            rfl
      exact loop m k 0 (by omega) (by omega)
    · rw [if_neg hall]
      -- some part is refused at once: the loop says so without going further
      have chk : ∀ (e k i : Nat), i + e = m → 1500 + e < k → ¬ (List.range' i e).all (fun d => okP R C ms es ns d) = true → spec_feSplit.l0 k (es.map (fun (x : Nat) => (x : Int))) (ns.map (fun (x : Nat) => (x : Int))) (m : Int) (i : Int) (R : Int) (C : Int) (ms.map (fun (x : Nat) => (x : Int))) = some ([], false) := by
        intro e
        induction e with
        | zero => intro k i hi hk h; exact absurd rfl h
        | succ e ihe =>
          intro k i hi hk h
          obtain ⟨k, rfl⟩ : ∃ m, k = m + 1 := ⟨k - 1, by omega⟩
          have hl : ns.length ≤ es.length := by omega
          have hpl := partTo_length es ns i ns.length
          have hpb := partTo_lt es ns i _ hes ns.length hl
          have hp9 : (partN es ns i).length ≤ 9 := by unfold partN; omega
          rw [spec_feSplit.l0, if_pos (by omega), fePart_k es ns i hl (by omega) k (by omega)]
          simp only [Option.bind_some]
          rw [feOrder_k R C ms (partN es ns i) hR hR6 hC0 hC hb hpb (by omega) k (by omega)]
          simp only [Option.bind_some]
          rw [List.range'_succ, List.all_cons] at h
          have ho : okP R C ms es ns i = (orderFrom R C ms (partN es ns i) R []).isSome := rfl
          cases h0 : orderFrom R C ms (partN es ns i) R [] with
          | none => simp
          | some l =>
            rw [h0] at ho
            simp only [if_true]
            rw [wrap_ok (by omega) (by omega), show ((i : Int) + 1) = ((i + 1 : Nat) : Int) by omega]
            exact ihe k (i + 1) (by omega) (by omega) (by rw [ho] at h; simpa using h)
      exact chk m k 0 (by omega) (by omega) hall
theorem pick_free (R C : Nat) (ms : List Nat) (i : Nat) (hi : i < R) : pick R C ms [] (List.range i) = some i := by
  unfold pick
  have h : ∀ r, ready C ms [] (List.range i) r = !decide (r < i) := by
    intro r
    unfold ready
    simp
  rw [List.find?_eq_some_iff_getElem]
  refine ⟨by rw [h]; simp, i, by simpa using hi, by simp, fun j hj => ?_⟩
  rw [h]
  simp [hj]
theorem orderFrom_free (R C : Nat) (ms : List Nat) : ∀ d i, i + d = R → orderFrom R C ms [] d (List.range i) = some (List.range R) := by
  intro d
  induction d with
  | zero =>
    intro i hi
    have : i = R := by omega
    rw [this]
    rfl
  | succ d ih =>
    intro i hi
    rw [orderFrom, pick_free R C ms i (by omega)]
    simp only [Option.bind_some]
    rw [← List.range_succ]
    exact ih (i + 1) (by omega)
theorem okP_nil (R C : Nat) (ms es : List Nat) (d : Nat) : okP R C ms es [] d = true := by
  unfold okP partN partTo
  have := orderFrom_free R C ms R 0 (by omega)
  simp only [List.range_zero] at this
  simp only [List.length_nil]
  rw [this]
  rfl
/-- The empty cells as numbers. -/
def emptyN (C : Nat) (ms : List Nat) (R : Nat) : List Nat := (emptyTo C ms R).map Int.toNat
theorem emptyTo_mem (C : Nat) (ms : List Nat) (R : Nat) (x : Int) (h : x ∈ emptyTo C ms R) : ∃ n : Nat, x = (n : Int) ∧ n < R * C := by
  unfold emptyTo at h
  rw [List.mem_flatMap] at h
  obtain ⟨r, hr, h⟩ := h
  unfold emptyRow at h
  rw [List.mem_map] at h
  obtain ⟨c, hc, rfl⟩ := h
  have hc2 : c < C := by
    have := (List.mem_filter.1 hc).1
    simpa using this
  have hr2 : r < R := by simpa using hr
  refine ⟨r * C + c, rfl, ?_⟩
  have : (r + 1) * C ≤ R * C := Nat.mul_le_mul_right C (by omega)
  rw [Nat.succ_mul] at this
  omega
theorem emptyN_map (C : Nat) (ms : List Nat) (R : Nat) : (emptyN C ms R).map (fun (x : Nat) => (x : Int)) = emptyTo C ms R := by
  unfold emptyN
  rw [List.map_map]
  conv => rhs; rw [← List.map_id (emptyTo C ms R)]
  apply List.map_congr_left
  intro x hx
  obtain ⟨n, rfl, _⟩ := emptyTo_mem C ms R x hx
  simp
theorem emptyN_lt (C : Nat) (ms : List Nat) (R : Nat) : ∀ c ∈ emptyN C ms R, c < R * C := by
  intro c hc
  unfold emptyN at hc
  rw [List.mem_map] at hc
  obtain ⟨x, hx, rfl⟩ := hc
  obtain ⟨n, rfl, h⟩ := emptyTo_mem C ms R x hx
  simpa using h
theorem emptyN_length (C : Nat) (ms : List Nat) (R : Nat) : (emptyN C ms R).length = (emptyTo C ms R).length := by simp [emptyN]

theorem split_dec (R C : Int) (M : List Int) (hM : M.length ≤ 1048576) : (∀ k, M.length + 400 < k → impl_isSplit.f k R C M = some false ∧ spec_feFew.f k R C M = some false) ∨ ((∀ k, M.length + 400 < k → impl_isSplit.f k R C M = some true ∧ spec_feFew.f k R C M = some true) ∧ ∃ (r c : Nat) (ms : List Nat), R = (r : Int) ∧ C = (c : Int) ∧ M = ms.map (fun (x : Nat) => (x : Int)) ∧ 1 ≤ r ∧ r ≤ 6 ∧ 1 ≤ c ∧ c ≤ 6 ∧ ms.length = r ∧ (∀ x ∈ ms, x < 64) ∧ (emptyTo c ms r).length ≤ 9) := by
  unfold impl_isSplit.f spec_feFew.f
  cases hT : isTab R C M
  · refine .inl fun k hk => ?_
    rw [IsTable_k R C M (by omega) k (by omega), feGood_k R C M (by omega) k (by omega), hT]
    exact ⟨rfl, rfl⟩
  · obtain ⟨r, c, ms, rfl, rfl, rfl, h1, h2, h3, h4, h5, h6⟩ := (isTab_iff R C M).1 hT
    have h64 : ∀ x ∈ ms, x < 64 := fun x hx => Nat.lt_of_lt_of_le (h6 x hx) (Nat.pow_le_pow_right (n := 2) (by omega) h4)
    have both : ∀ k, (ms.map (fun (x : Nat) => (x : Int))).length + 400 < k → impl_Table_emptyCells.f k (r : Int) (c : Int) (ms.map (fun (x : Nat) => (x : Int))) = some (emptyTo c ms r) ∧ spec_feEmpty.f k (r : Int) (c : Int) (ms.map (fun (x : Nat) => (x : Int))) = some (emptyTo c ms r) := fun k hk => ⟨emptyCells_k r c ms h5 h2 h4 h64 k (by omega), feEmpty_k r c ms h5 h2 h4 h64 k (by omega)⟩
    by_cases h9 : (emptyTo c ms r).length ≤ 9
    · refine .inr ⟨fun k hk => ?_, r, c, ms, rfl, rfl, rfl, h1, h2, h3, h4, h5, h64, h9⟩
      rw [IsTable_k _ _ _ (by omega) k (by omega), feGood_k _ _ _ (by omega) k (by omega), hT]
      simp only [Option.bind_some, if_true]
      rw [(both k hk).1, (both k hk).2]
      simp only [Option.bind_some, Option.some.injEq, decide_eq_true_eq]
      omega
    · refine .inl fun k hk => ?_
      rw [IsTable_k _ _ _ (by omega) k (by omega), feGood_k _ _ _ (by omega) k (by omega), hT]
      simp only [Option.bind_some, if_true]
      rw [(both k hk).1, (both k hk).2]
      simp only [Option.bind_some, Option.some.injEq, decide_eq_false_iff_not]
      omega
theorem split_impl (r c : Nat) (ms : List Nat) (h1 : 1 ≤ r) (h2 : r ≤ 6) (h3 : 1 ≤ c) (h4 : c ≤ 6) (h5 : ms.length = r) (h64 : ∀ x ∈ ms, x < 64) (e9 : (emptyN c ms r).length ≤ 9) (n : Nat) (hn : n ≤ 4) : ∀ k, 3000 < k → impl_Table_split.f k (r : Int) (c : Int) (ms.map (fun (x : Nat) => (x : Int))) (n : Int) = some ((spl r c ms (emptyN c ms r) n (emptyN c ms r).length []).map (fun l => l.map (fun (x : Nat) => (x : Int)))) := by
  intro k hk
  unfold impl_Table_split.f
  rw [emptyCells_k r c ms h5 h2 h4 h64 k (by omega), ← emptyN_map]
  simp only [Option.bind_some]
  exact split1_k r c ms (emptyN c ms r) h5 h1 h2 h3 h4 h64 (emptyN_lt c ms r) e9 n hn (emptyN c ms r).length [] k (by simp) (by unfold rounds; omega)
theorem split_spec (r c : Nat) (ms : List Nat) (h1 : 1 ≤ r) (h2 : r ≤ 6) (h3 : 1 ≤ c) (h4 : c ≤ 6) (h5 : ms.length = r) (h64 : ∀ x ∈ ms, x < 64) (e9 : (emptyN c ms r).length ≤ 9) (n : Nat) (hn : n ≤ 4) : ∀ k, 2900 < k → spec_feSplit.f k (r : Int) (c : Int) (ms.map (fun (x : Nat) => (x : Int))) (emptyTo c ms r) [] (n : Int) = some (handed (spl r c ms (emptyN c ms r) n (emptyN c ms r).length [])) := by
  intro k hk
  have := feSplit_k r c ms (emptyN c ms r) h5 h1 h2 h3 h4 h64 (emptyN_lt c ms r) e9 n hn (emptyN c ms r).length [] k (by simp) (by unfold rounds; omega)
  rw [if_pos (List.all_eq_true.2 fun d _ => okP_nil r c ms _ d), emptyN_map] at this
  exact this

/-- The least number of parts from m on, none: 0. -/
def leastFrom (r c : Nat) (ms es : List Nat) : Nat → Nat → Nat
  | 0, _ => 0
  | d + 1, m => if (spl r c ms es m es.length []).isSome then m else leastFrom r c ms es d (m + 1)
theorem leastFrom_pos (r c : Nat) (ms es : List Nat) : ∀ d m, 1 ≤ m → m + d = 5 → leastFrom r c ms es d m = 0 ∨ (1 ≤ leastFrom r c ms es d m ∧ leastFrom r c ms es d m ≤ 4) := by
  intro d
  induction d with
  | zero => intro m _ _; exact .inl rfl
  | succ d ih =>
    intro m hm hd
    rw [leastFrom]
    split
    · exact .inr ⟨hm, by omega⟩
    · exact ih (m + 1) (by omega) (by omega)
theorem leastParts_l0 (r c : Nat) (ms : List Nat) (h1 : 1 ≤ r) (h2 : r ≤ 6) (h3 : 1 ≤ c) (h4 : c ≤ 6) (h5 : ms.length = r) (h64 : ∀ x ∈ ms, x < 64) (e9 : (emptyN c ms r).length ≤ 9) : ∀ (d m k : Nat), m + d = 5 → 3000 + d < k →
    impl_Table_leastParts.l0 k (r : Int) (c : Int) (ms.map (fun (x : Nat) => (x : Int))) (m : Int) = some ((leastFrom r c ms (emptyN c ms r) d m : Nat) : Int) := by
  intro d
  induction d with
  | zero =>
    intro m k hm hk
    obtain ⟨k, rfl⟩ : ∃ m, k = m + 1 := ⟨k - 1, by omega⟩
    rw [impl_Table_leastParts.l0, if_neg (by omega)]
    rfl
  | succ d ih =>
    intro m k hm hk
    obtain ⟨k, rfl⟩ : ∃ m, k = m + 1 := ⟨k - 1, by omega⟩
    have next := ih (m + 1) k (by omega) (by omega)
    rw [impl_Table_leastParts.l0, if_pos (by omega), split_impl r c ms h1 h2 h3 h4 h5 h64 e9 m (by omega) k (by omega), wrap_ok (by omega) (by omega), show ((m : Int) + 1) = ((m + 1 : Nat) : Int) by omega, leastFrom]
    simp only [Option.bind_some]
    cases hs : spl r c ms (emptyN c ms r) m (emptyN c ms r).length [] with
    | none => exact next
    | some l => rfl
theorem leastPartsS_l0 (r c : Nat) (ms : List Nat) (h1 : 1 ≤ r) (h2 : r ≤ 6) (h3 : 1 ≤ c) (h4 : c ≤ 6) (h5 : ms.length = r) (h64 : ∀ x ∈ ms, x < 64) (e9 : (emptyN c ms r).length ≤ 9) : ∀ (d m k : Nat), 1 ≤ m → m + d = 5 → 3000 + d < k →
    spec_LeastParts.l0 k (m : Int) (r : Int) (c : Int) (ms.map (fun (x : Nat) => (x : Int))) = some (((leastFrom r c ms (emptyN c ms r) d m : Nat) : Int), decide (((leastFrom r c ms (emptyN c ms r) d m : Nat) : Int) > 0)) := by
  intro d
  induction d with
  | zero =>
    intro m k _ hm hk
    obtain ⟨k, rfl⟩ : ∃ m, k = m + 1 := ⟨k - 1, by omega⟩
    rw [spec_LeastParts.l0, if_neg (by omega)]
    rfl
  | succ d ih =>
    intro m k h0 hm hk
    obtain ⟨k, rfl⟩ : ∃ m, k = m + 1 := ⟨k - 1, by omega⟩
    have next := ih (m + 1) k (by omega) (by omega) (by omega)
    rw [spec_LeastParts.l0, if_pos (by omega), feEmpty_k r c ms h5 h2 h4 h64 k (by omega)]
    simp only [Option.bind_some]
    rw [split_spec r c ms h1 h2 h3 h4 h5 h64 e9 m (by omega) k (by omega), wrap_ok (by omega) (by omega), show ((m : Int) + 1) = ((m + 1 : Nat) : Int) by omega, leastFrom]
    simp only [Option.bind_some]
    cases hs : spl r c ms (emptyN c ms r) m (emptyN c ms r).length [] with
    | none => exact next
    | some l =>
      have hp : ((m : Nat) : Int) > 0 := by omega
      simp [handed, hp]
      omega
theorem leastParts_both (R C : Int) (M : List Int) (hM : M.length ≤ 1048576) : ∃ y z, (∀ k, M.length + 3100 < k → impl_LeastParts.f k R C M = some (y, z)) ∧ (∀ k, M.length + 3100 < k → spec_LeastParts.f k R C M = some (y, z)) := by
  rcases split_dec R C M hM with dec | ⟨dec, r, c, ms, rfl, rfl, rfl, h1, h2, h3, h4, h5, h64, h9⟩
  · refine ⟨0, false, fun k hk => ?_, fun k hk => ?_⟩
    · unfold impl_LeastParts.f
      rw [(dec k (by omega)).1]
      rfl
    · unfold spec_LeastParts.f
      rw [(dec k (by omega)).2]
      rfl
  · have e9 : (emptyN c ms r).length ≤ 9 := by rw [emptyN_length]; exact h9
    refine ⟨((leastFrom r c ms (emptyN c ms r) 4 1 : Nat) : Int), decide (((leastFrom r c ms (emptyN c ms r) 4 1 : Nat) : Int) > 0), fun k hk => ?_, fun k hk => ?_⟩
    · unfold impl_LeastParts.f impl_Table_leastParts.f
      rw [(dec k (by omega)).1]
      simp only [Option.bind_some, if_true]
      have := leastParts_l0 r c ms h1 h2 h3 h4 h5 h64 e9 4 1 k (by omega) (by omega)
      rw [show ((1 : Nat) : Int) = 1 from rfl] at this
      rw [this]
      rfl
    · unfold spec_LeastParts.f
      rw [(dec k (by omega)).2]
      simp only [Option.bind_some, if_true]
      exact leastPartsS_l0 r c ms h1 h2 h3 h4 h5 h64 e9 4 1 k (by omega) (by omega) (by omega)

theorem spl_ok (R C : Nat) (ms es : List Nat) (m : Nat) : ∀ r ns l, spl R C ms es m r ns = some l → (∀ d, d < m → okP R C ms es ns d = true) → (∀ x ∈ ns, x < m) → (∀ d, d < m → okP R C ms es l d = true) ∧ ∀ x ∈ l, x < m := by
  intro r
  induction r with
  | zero =>
    intro ns l h h1 h2
    simp only [spl, Option.some.injEq] at h
    subst h
    exact ⟨h1, h2⟩
  | succ r ih =>
    intro ns l h h1 h2
    simp only [spl] at h
    obtain ⟨d, hd, h3⟩ := List.exists_of_findSome?_eq_some h
    rw [List.mem_range'] at hd
    obtain ⟨d', hd', rfl⟩ := hd
    split at h3
    · rename_i hok
      refine ih _ _ h3 (fun q hq => ?_) (fun x hx => ?_)
      · by_cases e : q = 0 + 1 * d'
        · rw [e]; exact hok
        · rw [okP_other _ _ _ _ _ _ _ (fun h => e h.symm)]
          exact h1 q hq
      · rcases List.mem_append.1 hx with h | h
        · exact h2 x h
        · have : x = 0 + 1 * d' := by simpa using h
          omega
    · cases h3
theorem partTo_mem (es ns : List Nat) (d x : Nat) : ∀ i, x ∈ partTo es ns d i ↔ ∃ j, j < i ∧ ns.getD j 0 = d ∧ es.getD j 0 = x := by
  intro i
  induction i with
  | zero => simp [partTo]
  | succ i ih =>
    rw [partTo]
    split
    · rename_i h
      rw [List.mem_append, ih]
      constructor
      · rintro (⟨j, h1, h2⟩ | h1)
        · exact ⟨j, by omega, h2⟩
        · have : x = es.getD i 0 := by simpa using h1
          exact ⟨i, by omega, h, this.symm⟩
      · rintro ⟨j, h1, h2, h3⟩
        by_cases e : j = i
        · subst e; right; rw [← h3]; simp
        · exact .inl ⟨j, by omega, h2, h3⟩
    · rename_i h
      rw [ih]
      constructor
      · rintro ⟨j, h1, h2⟩
        exact ⟨j, by omega, h2⟩
      · rintro ⟨j, h1, h2, h3⟩
        by_cases e : j = i
        · subst e; exact absurd h2 h
        · exact ⟨j, by omega, h2, h3⟩
/-- The empty cells are those without a mark. -/
theorem emptyTo_iff (C : Nat) (ms : List Nat) (R i j : Nat) (hi : i < R) (hj : j < C) (h : mk ms i j = false) : ((i * C + j : Nat) : Int) ∈ emptyTo C ms R := by
  unfold emptyTo
  rw [List.mem_flatMap]
  refine ⟨i, List.mem_range.2 hi, ?_⟩
  unfold emptyRow
  rw [List.mem_map]
  exact ⟨j, List.mem_filter.2 ⟨List.mem_range.2 hj, by simp [h]⟩, rfl⟩
theorem emptyN_iff (C : Nat) (ms : List Nat) (R i j : Nat) (hi : i < R) (hj : j < C) (h : mk ms i j = false) : i * C + j ∈ emptyN C ms R := by
  unfold emptyN
  rw [List.mem_map]
  exact ⟨_, emptyTo_iff C ms R i j hi hj h, by omega⟩
theorem emptyN_unmarked (C : Nat) (ms : List Nat) (R x : Nat) (h : x ∈ emptyN C ms R) : mk ms (x / C) (x % C) = false := by
  unfold emptyN at h
  rw [List.mem_map] at h
  obtain ⟨y, hy, rfl⟩ := h
  unfold emptyTo at hy
  rw [List.mem_flatMap] at hy
  obtain ⟨i, hi, hy⟩ := hy
  unfold emptyRow at hy
  rw [List.mem_map] at hy
  obtain ⟨j, hj, rfl⟩ := hy
  have h2 := List.mem_filter.1 hj
  have hjC : j < C := List.mem_range.1 h2.1
  have e : (((i * C + j : Nat) : Int)).toNat = i * C + j := by omega
  rw [e, Nat.mul_comm, Nat.mul_add_div (by omega), Nat.div_eq_of_lt hjC, Nat.mul_add_mod, Nat.mod_eq_of_lt hjC, Nat.add_zero]
  simpa using h2.2
/-- The rows of a split's part in the order that shows that its cells are free. -/
def ordP (R C : Nat) (ms es l : List Nat) (d : Nat) : List Nat := (orderFrom R C ms (partN es l d) R []).getD []
theorem ordP_facts (R C : Nat) (ms es l : List Nat) (d : Nat) (h : okP R C ms es l d = true) : orderFrom R C ms (partN es l d) R [] = some (ordP R C ms es l d) ∧ (ordP R C ms es l d).length = R ∧ (∀ s ∈ ordP R C ms es l d, s < R) ∧ OrdOK C ms (partN es l d) (ordP R C ms es l d) := by
  unfold okP at h
  unfold ordP
  cases h0 : orderFrom R C ms (partN es l d) R [] with
  | none => rw [h0] at h; cases h
  | some o =>
    rw [Option.getD_some]
    refine ⟨rfl, ?_, orderFrom_lt R C ms _ R [] o (by simp) h0, orderFrom_ok R C ms _ R [] o ⟨by simp, by simp⟩ h0⟩
    have := orderFrom_length R C ms _ R [] o h0
    simpa using this
/-- The covers of the parts. -/
def covP (R C : Nat) (ms es l : List Nat) (d : Nat) : List Nat := covN R ms (ordP R C ms es l d) (ordP R C ms es l d).length
section
variable {R C : Nat} {ms l : List Nat} {m : Nat}
theorem partN_lt (hl : l.length = (emptyN C ms R).length) (d : Nat) : ∀ x ∈ partN (emptyN C ms R) l d, x < R * C := partTo_lt _ _ _ _ (emptyN_lt C ms R) _ (by omega)
theorem covP_facts (hR : ms.length = R) (hC0 : 1 ≤ C) (hl : l.length = (emptyN C ms R).length) (d : Nat) (h : okP R C ms (emptyN C ms R) l d = true) :
    (∀ r c, r < R → mk ms r c = true → mk (covP R C ms (emptyN C ms R) l d) r c = true) ∧ (∀ q, q < (partN (emptyN C ms R) l d).length → mk (covP R C ms (emptyN C ms R) l d) ((partN (emptyN C ms R) l d).getD q 0 / C) ((partN (emptyN C ms R) l d).getD q 0 % C) = false) ∧ (∀ r s c d', r < R → s < R → four (covP R C ms (emptyN C ms R) l d) r c s d' = false) := by
  obtain ⟨_, h2, h3, h4⟩ := ordP_facts R C ms (emptyN C ms R) l d h
  exact cover_facts R C ms _ _ hR h2 h3 h4 hC0 (partN_lt hl d)
/-- What is marked in all covers is marked. -/
theorem covP_meet (hR : ms.length = R) (hC0 : 1 ≤ C) (hl : l.length = (emptyN C ms R).length) (hlm : ∀ x ∈ l, x < m) (h : ∀ d, d < m → okP R C ms (emptyN C ms R) l d = true) (i j : Nat) (hi : i < R) (hj : j < C) (ha : ∀ d, d < m → mk (covP R C ms (emptyN C ms R) l d) i j = true) : mk ms i j = true := by
  cases hm : mk ms i j
  · obtain ⟨q, hq, e⟩ := mem_getD _ _ (emptyN_iff C ms R i j hi hj hm)
    have hd := hlm _ (getD_mem l q (by omega))
    have hp : i * C + j ∈ partN (emptyN C ms R) l (l.getD q 0) := by
      unfold partN
      rw [partTo_mem]
      exact ⟨q, by omega, rfl, e⟩
    obtain ⟨t, ht, et⟩ := mem_getD _ _ hp
    have f := (covP_facts hR hC0 hl _ (h _ hd)).2.1 t ht
    have e1 : (i * C + j) / C = i := by rw [Nat.mul_comm, Nat.mul_add_div (by omega), Nat.div_eq_of_lt hj, Nat.add_zero]
    have e2 : (i * C + j) % C = j := by rw [Nat.mul_comm, Nat.mul_add_mod, Nat.mod_eq_of_lt hj]
    rw [et, e1, e2, ha _ hd] at f
    cases f
  · rfl
/-- In a biorder all empty cells are free together. -/
theorem bio_free (hR : ms.length = R) (h : ∀ r s c d, r < R → s < R → four ms r c s d = false) (cs : List Nat) (hcs : ∀ x ∈ cs, x < R * C) (hu : ∀ x ∈ cs, mk ms (x / C) (x % C) = false) (hC0 : 1 ≤ C) : ∀ d out, out.length + d = R → (∀ s ∈ out, s < R) → (orderFrom R C ms cs d out).isSome = true := by
  intro d
  induction d with
  | zero => intro out _ _; rfl
  | succ d ih =>
    intro out hd hout
    -- a row that isn't out, with the least marks
    have ex : ∃ r, r < R ∧ r ∉ out := by
      apply Classical.byContradiction
      intro hn
      have all : ∀ r, r < R → r ∈ out := fun r hr => Classical.byContradiction fun h => hn ⟨r, hr, h⟩
      have := sub_len (List.range R) out List.nodup_range (fun x hx => all x (List.mem_range.1 hx))
      simp at this
      omega
    have least : ∀ n r, ms.getD r 0 ≤ n → r < R → r ∉ out → ∃ r, r < R ∧ r ∉ out ∧ ∀ s, s < R → s ∉ out → ms.getD r 0 ≤ ms.getD s 0 := by
      intro n
      induction n with
      | zero => intro r h1 h2 h3; exact ⟨r, h2, h3, fun s _ _ => by omega⟩
      | succ n ihn =>
        intro r h1 h2 h3
        by_cases hs : ∃ s, s < R ∧ s ∉ out ∧ ms.getD s 0 < ms.getD r 0
        · obtain ⟨s, s1, s2, s3⟩ := hs
          exact ihn s (by omega) s1 s2
        · refine ⟨r, h2, h3, fun s s1 s2 => ?_⟩
          apply Classical.byContradiction
          intro hc
          exact hs ⟨s, s1, s2, by omega⟩
    obtain ⟨r0, g1, g2⟩ := ex
    obtain ⟨r, hr, hro, hmin⟩ := least _ r0 (Nat.le_refl _) g1 g2
    have hready : ready C ms cs out r = true := by
      rw [ready_facts]
      refine ⟨hro, fun q hq hm => ?_⟩
      apply Classical.byContradiction
      intro hn
      have hrow : cs.getD q 0 / C < R := cs_row R C cs hcs q hq
      have hum := hu _ (getD_mem cs q hq)
      have hle := hmin _ hrow hn
      -- the cell's row lies in r, strictly
      have hsub : ∀ i, (ms.getD (cs.getD q 0 / C) 0).testBit i = true → (ms.getD r 0).testBit i = true := by
        intro i hb
        have := h r (cs.getD q 0 / C) (cs.getD q 0 % C) i hr hrow
        unfold four at this
        unfold mk at this hm hum
        rw [hm, hum, hb] at this
        cases hc : (ms.getD r 0).testBit i
        · rw [hc] at this; simp at this
        · rfl
      have h2 : ms.getD (cs.getD q 0 / C) 0 ≤ ms.getD r 0 := Nat.le_of_testBit fun i hi => hsub i hi
      have h3 : ms.getD (cs.getD q 0 / C) 0 = ms.getD r 0 := by omega
      unfold mk at hm hum
      rw [h3, hm] at hum
      cases hum
    rw [orderFrom]
    cases hp : pick R C ms cs out with
    | none =>
      unfold pick at hp
      have := List.find?_eq_none.1 hp r (by rw [List.mem_range']; exact ⟨r, hr, by omega⟩)
      exact absurd hready this
    | some r' =>
      simp only [Option.bind_some]
      refine ih (out ++ [r']) (by simp; omega) (fun s hs => ?_)
      rcases List.mem_append.1 hs with h | h
      · exact hout s h
      · have : s = r' := by simpa using h
        rw [this]; exact pick_lt hp
theorem spl_one (hC0 : 1 ≤ C) (hR : ms.length = R) (h : ∀ r s c d, r < R → s < R → four ms r c s d = false) : ∀ r ns, ns.length + r = (emptyN C ms R).length → ∃ l, spl R C ms (emptyN C ms R) 1 r ns = some l := by
  intro r
  induction r with
  | zero => intro ns _; exact ⟨ns, rfl⟩
  | succ r ih =>
    intro ns hn
    obtain ⟨l, hl⟩ := ih (ns ++ [0]) (by simp; omega)
    refine ⟨l, ?_⟩
    have hp : ∀ x ∈ partN (emptyN C ms R) (ns ++ [0]) 0, x ∈ emptyN C ms R := by
      intro x hx
      unfold partN at hx
      rw [partTo_mem] at hx
      obtain ⟨j, h1, _, h3⟩ := hx
      rw [← h3]
      exact getD_mem _ _ (by simp at h1; omega)
    have ok : okP R C ms (emptyN C ms R) (ns ++ [0]) 0 = true := bio_free hR h _ (fun x hx => emptyN_lt C ms R x (hp x hx)) (fun x hx => emptyN_unmarked C ms R x (hp x hx)) hC0 R [] (by simp) (by simp)
    rw [spl]
    simp only [List.range', List.findSome?_cons, ok, if_true, hl]
theorem least_le (es : List Nat) : ∀ d m q, m ≤ q → q < m + d → (spl R C ms es q es.length []).isSome = true → (m ≤ leastFrom R C ms es d m ∧ leastFrom R C ms es d m ≤ q) := by
  intro d
  induction d with
  | zero => intro m q h1 h2; omega
  | succ d ih =>
    intro m q h1 h2 h3
    rw [leastFrom]
    split
    · exact ⟨Nat.le_refl _, h1⟩
    · rename_i hn
      have : m ≠ q := fun e => hn (e ▸ h3)
      have := ih (m + 1) q (by omega) (by omega) h3
      omega
theorem least_some (es : List Nat) : ∀ d m, leastFrom R C ms es d m ≠ 0 → (spl R C ms es (leastFrom R C ms es d m) es.length []).isSome = true ∧ ∀ q, m ≤ q → q < leastFrom R C ms es d m → (spl R C ms es q es.length []).isSome = false := by
  intro d
  induction d with
  | zero => intro m h; exact absurd rfl h
  | succ d ih =>
    intro m h
    rw [leastFrom] at h ⊢
    split
    · rename_i hs
      exact ⟨hs, fun q h1 h2 => by omega⟩
    · rename_i hs
      rw [if_neg hs] at h
      obtain ⟨a, b⟩ := ih (m + 1) h
      refine ⟨a, fun q h1 h2 => ?_⟩
      by_cases e : q = m
      · subst e
        cases hq : (spl R C ms es q es.length []).isSome
        · rfl
        · exact absurd hq hs
      · exact b q (by omega) h2
end

/-! Rows of tables: equal, marked, held. -/
theorem rd_mid {α : Type} [Enc α] (pre : List α) (x : α) (xs : List α) : Enc.rd (pre ++ x :: xs) (pre.length : Int) = x := by
  unfold Enc.rd
  rw [List.getD_eq_getElem?_getD, Int.toNat_natCast, List.getElem?_append_right (Nat.le_refl _), Nat.sub_self]
  rfl
theorem set_mid {α : Type} (pre : List α) (x y : α) (xs : List α) : (pre ++ x :: xs).set ((pre.length : Int)).toNat y = (pre ++ [y]) ++ xs := by
  rw [Int.toNat_natCast, List.set_append_right _ _ (Nat.le_refl _), Nat.sub_self, List.set_cons_zero, List.append_assoc]
  rfl
theorem snoc_len {α : Type} (pre : List α) (y : α) : (((pre ++ [y]).length : Nat) : Int) = (pre.length : Int) + 1 := by simp
theorem eqTableS_l0 (B : Nat) (hB : B ≤ 1048576) : ∀ (xs pre : List S29), (∀ x ∈ xs, x.f2.length ≤ B) → (pre ++ xs).length ≤ 1048576 → ∀ k, xs.length + B + 2 ≤ k → laws_eqTableS.l0 k (pre ++ xs) (pre ++ xs) (pre.length : Int) = some true
  | [], pre, _, _, k, hk => by
    obtain ⟨k, rfl⟩ : ∃ m, k = m + 1 := ⟨k - 1, by omega⟩
    rw [laws_eqTableS.l0, if_neg (by simp)]
  | x :: xs, pre, hx, hl, k, hk => by
    obtain ⟨k, rfl⟩ : ∃ m, k = m + 1 := ⟨k - 1, by omega⟩
    simp only [List.length_append, List.length_cons] at hl hk
    have h1 := hx x (by simp)
    have ih := eqTableS_l0 B hB xs (pre ++ [x]) (fun y hy => hx y (by simp [hy])) (by simp only [List.length_append, List.length_cons, List.length_nil]; omega) k (by omega)
    rw [snoc_len, List.append_assoc] at ih
    have hlt : (pre.length : Int) < ((pre ++ x :: xs).length : Int) := by simp only [List.length_append, List.length_cons]; omega
    rw [laws_eqTableS.l0, if_pos hlt, if_pos (by omega), if_pos hlt, rd_mid, eqTable_k x.f0 x.f1 x.f2 (by omega) k (by omega)]
    simp only [Option.bind_some]
    rw [if_pos trivial, wrap_ok (by omega) (by omega)]
    exact ih
theorem eqTableS_k (B : Nat) (hB : B ≤ 1048576) (xs : List S29) (hx : ∀ x ∈ xs, x.f2.length ≤ B) (hl : xs.length ≤ 1048576) (k : Nat) (hk : xs.length + B + 2 ≤ k) : laws_eqTableS.f k xs xs = some true := by
  unfold laws_eqTableS.f
  rw [if_pos rfl]
  exact eqTableS_l0 B hB xs [] hx hl k hk
def numT : Int → List S29 → List S29
  | _, [] => []
  | a, x :: xs => ⟨a, a + 1, iota (a + 2) x.f2.length⟩ :: numT (a + 2 + (x.f2.length : Int)) xs
def endT : Int → List S29 → Int
  | a, [] => a
  | a, x :: xs => endT (a + 2 + (x.f2.length : Int)) xs
theorem endT_le (B : Nat) : ∀ (xs : List S29) (a : Int), (∀ x ∈ xs, x.f2.length ≤ B) → a ≤ endT a xs ∧ endT a xs ≤ a + (xs.length : Int) * ((B : Int) + 2)
  | [], a, _ => by simp [endT]
  | x :: xs, a, h => by
    have h1 := h x (by simp)
    have ⟨i1, i2⟩ := endT_le B xs (a + 2 + (x.f2.length : Int)) (fun y hy => h y (by simp [hy]))
    simp only [endT, List.length_cons]
    have e : ((xs.length + 1 : Nat) : Int) * ((B : Int) + 2) = (xs.length : Int) * ((B : Int) + 2) + ((B : Int) + 2) := by rw [Int.natCast_add, Int.add_mul]; simp
    rw [e]
    generalize (xs.length : Int) * ((B : Int) + 2) = q at *
    omega
theorem markTableS_l0 (B : Nat) (hB : B ≤ 1048576) : ∀ (xs pre : List S29) (a : Int), 0 ≤ a → (∀ x ∈ xs, x.f2.length ≤ B) → (pre ++ xs).length ≤ 1048576 → endT a xs < 4611686018427387904 → ∀ k, xs.length + B + 2 ≤ k →
    laws_markTableS.l0 k (pre ++ xs) a (pre.length : Int) = some (endT a xs, pre ++ numT a xs)
  | [], pre, a, _, _, _, _, k, hk => by
    obtain ⟨k, rfl⟩ : ∃ m, k = m + 1 := ⟨k - 1, by omega⟩
    rw [laws_markTableS.l0, if_neg (by simp)]
    simp only [endT, numT]
  | x :: xs, pre, a, ha, hx, hl, he, k, hk => by
    obtain ⟨k, rfl⟩ : ∃ m, k = m + 1 := ⟨k - 1, by omega⟩
    simp only [List.length_append, List.length_cons] at hl hk
    have h1 := hx x (by simp)
    have h2 : ∀ y ∈ xs, y.f2.length ≤ B := fun y hy => hx y (by simp [hy])
    simp only [endT] at he ⊢
    have ⟨i1, _⟩ := endT_le B xs (a + 2 + (x.f2.length : Int)) h2
    have ih := markTableS_l0 B hB xs (pre ++ [⟨a, a + 1, iota (a + 2) x.f2.length⟩]) (a + 2 + (x.f2.length : Int)) (by omega) h2 (by simp only [List.length_append, List.length_cons, List.length_nil]; omega) he k (by omega)
    rw [snoc_len] at ih
    have hlt : (pre.length : Int) < ((pre ++ x :: xs).length : Int) := by simp only [List.length_append, List.length_cons]; omega
    have w1 : wrap64 (a + 1) = a + 1 := wrap_ok (by omega) (by omega)
    have w2 : wrap64 (a + 1 + 1) = a + 2 := by rw [wrap_ok (by omega) (by omega)]; omega
    rw [laws_markTableS.l0, if_pos hlt, if_pos (by omega), rd_mid, w1, w2, markIntS_k x.f2 (a + 2) (by omega) (by omega) k (by omega)]
    simp only [Option.bind_some]
    rw [set_mid, wrap_ok (by omega) (by omega), ih, List.append_assoc]
    rfl
theorem markTableS_k (B : Nat) (hB : B ≤ 1048576) (xs : List S29) (hx : ∀ x ∈ xs, x.f2.length ≤ B) (hl : xs.length ≤ 1048576) (k : Nat) (hk : xs.length + B + 2 ≤ k) (he : endT 1 xs < 4611686018427387904) :
    laws_markTableS.f k xs 1 = some (endT 1 xs, numT 1 xs) := by
  unfold laws_markTableS.f
  exact markTableS_l0 B hB xs [] 1 (by omega) hx hl he k hk
theorem heldTableS_l0 (B : Nat) (hB : B ≤ 1048576) : ∀ (xs pre : List S29) (a : Int), 0 ≤ a → (∀ x ∈ xs, x.f2.length ≤ B) → (pre ++ xs).length ≤ 1048576 → endT a xs < 4611686018427387904 → ∀ k, xs.length + B + 2 ≤ k →
    laws_heldTableS.l0 k (pre ++ numT a xs) a (pre.length : Int) = some (endT a xs)
  | [], pre, a, _, _, _, _, k, hk => by
    obtain ⟨k, rfl⟩ : ∃ m, k = m + 1 := ⟨k - 1, by omega⟩
    rw [laws_heldTableS.l0, if_neg (by simp [numT])]
    simp only [endT]
  | x :: xs, pre, a, ha, hx, hl, he, k, hk => by
    obtain ⟨k, rfl⟩ : ∃ m, k = m + 1 := ⟨k - 1, by omega⟩
    simp only [List.length_append, List.length_cons] at hl hk
    have h1 := hx x (by simp)
    have h2 : ∀ y ∈ xs, y.f2.length ≤ B := fun y hy => hx y (by simp [hy])
    simp only [endT] at he ⊢
    have ⟨i1, _⟩ := endT_le B xs (a + 2 + (x.f2.length : Int)) h2
    have ih := heldTableS_l0 B hB xs (pre ++ [⟨a, a + 1, iota (a + 2) x.f2.length⟩]) (a + 2 + (x.f2.length : Int)) (by omega) h2 (by simp only [List.length_append, List.length_cons, List.length_nil]; omega) he k (by omega)
    rw [snoc_len, List.append_assoc] at ih
    show laws_heldTableS.l0 (k + 1) (pre ++ (⟨a, a + 1, iota (a + 2) x.f2.length⟩ : S29) :: numT (a + 2 + (x.f2.length : Int)) xs) a (pre.length : Int) = _
    have hlt : (pre.length : Int) < ((pre ++ (⟨a, a + 1, iota (a + 2) x.f2.length⟩ : S29) :: numT (a + 2 + (x.f2.length : Int)) xs).length : Int) := by simp only [List.length_append, List.length_cons]; omega
    have w1 : wrap64 (a + 1) = a + 1 := wrap_ok (by omega) (by omega)
    have w2 : wrap64 (a + 1 + 1) = a + 2 := by rw [wrap_ok (by omega) (by omega)]; omega
    rw [laws_heldTableS.l0, if_pos hlt, if_pos (by omega)]
    have q := rd_mid pre (⟨a, a + 1, iota (a + 2) x.f2.length⟩ : S29) (numT (a + 2 + (x.f2.length : Int)) xs)
    rw [if_pos (by rw [q]), if_pos (by rw [q, w1]), q, w1, w2, heldIntS_k (a + 2) x.f2.length (by omega) (by omega) k (by omega)]
    simp only [Option.bind_some]
    rw [if_neg (by omega), wrap_ok (by omega) (by omega)]
    exact ih
theorem heldTableS_k (B : Nat) (hB : B ≤ 1048576) (xs : List S29) (hx : ∀ x ∈ xs, x.f2.length ≤ B) (hl : xs.length ≤ 1048576) (k : Nat) (hk : xs.length + B + 2 ≤ k) (he : endT 1 xs < 4611686018427387904) :
    laws_heldTableS.f k (numT 1 xs) 1 = some (endT 1 xs) := by
  unfold laws_heldTableS.f
  exact heldTableS_l0 B hB xs [] 1 (by omega) hx hl he k hk

/-- The list of the covers. -/
def coverB (r c : Nat) (ms es l : List Nat) (d : Nat) : S29 := ⟨(r : Int), (c : Int), (covP r c ms es l d).map (fun (x : Nat) => (x : Int))⟩
def coversB (r c : Nat) (ms es l : List Nat) (n : Nat) : List S29 := (List.range n).map (coverB r c ms es l)
theorem coversB_succ (r c : Nat) (ms es l : List Nat) (n : Nat) : coversB r c ms es l (n + 1) = coversB r c ms es l n ++ [coverB r c ms es l n] := by
  unfold coversB
  rw [List.range_succ, List.map_append]
  rfl
theorem coversB_length (r c : Nat) (ms es l : List Nat) (n : Nat) : (coversB r c ms es l n).length = n := by simp [coversB]
theorem coversB_rd (r c : Nat) (ms es l : List Nat) (n i : Nat) (hi : i < n) : Enc.rd (coversB r c ms es l n) (i : Int) = coverB r c ms es l i := by
  unfold Enc.rd coversB
  rw [Int.toNat_natCast, List.getD_eq_getElem?_getD, List.getElem?_map, List.getElem?_range hi]
  rfl
section
variable {r c m : Nat} {ms l : List Nat}
theorem meetI_l0 (h1 : 1 ≤ r) (h2 : r ≤ 6) (h3 : 1 ≤ c) (h4 : c ≤ 6) (h5 : ms.length = r) (h6 : ∀ x ∈ ms, x < 2 ^ c) (h64 : ∀ x ∈ ms, x < 64) (e9 : (emptyN c ms r).length ≤ 9) (hl : l.length = (emptyN c ms r).length) (ok : ∀ d, d < m → okP r c ms (emptyN c ms r) l d = true) (hm : m ≤ 4) : ∀ (e k d : Nat), d + e = m → 4000 + e < k →
    impl_MeetOfBiorders.l0 k (coversB r c ms (emptyN c ms r) l d) (l.map (fun (x : Nat) => (x : Int))) (m : Int) (d : Int) (r : Int) (c : Int) (ms.map (fun (x : Nat) => (x : Int))) = some (coversB r c ms (emptyN c ms r) l m, true) := by
  intro e
  induction e with
  | zero =>
    intro k d hd hk
    obtain ⟨k, rfl⟩ : ∃ m, k = m + 1 := ⟨k - 1, by omega⟩
    have : d = m := by omega
    subst this
    rw [impl_MeetOfBiorders.l0, if_neg (by omega)]
  | succ e ih =>
    intro k d hd hk
    obtain ⟨k, rfl⟩ : ∃ m, k = m + 1 := ⟨k - 1, by omega⟩
    obtain ⟨o1, o2, o3, o4⟩ := ordP_facts r c ms (emptyN c ms r) l d (ok d (by omega))
    have pl := partTo_length (emptyN c ms r) l d l.length
    have plt := partN_lt (ms := ms) (R := r) (C := c) hl d
    have c5 : (coversB r c ms (emptyN c ms r) l d).length < 3518437208883 := by rw [coversB_length]; omega
    rw [impl_MeetOfBiorders.l0, if_pos (by omega), emptyCells_k r c ms h5 h2 h4 h64 k (by omega), ← emptyN_map]
    simp only [Option.bind_some]
    rw [cellsWith_k (emptyN c ms r) l d (by omega) (by omega) k (by omega)]
    simp only [Option.bind_some]
    rw [freeOrder_k r c ms (partN (emptyN c ms r) l d) h5 h1 h2 h3 h4 h64 plt (by unfold partN; omega) k (by unfold partN; omega), o1, Option.getD_some]
    simp only [Option.bind_some]
    rw [(cover_k r c ms (ordP r c ms (emptyN c ms r) l d) h5 h2 h4 h6 o3 (by omega) k (by omega)).1]
    simp only [Option.bind_some, if_pos c5]
    rw [wrap_ok (by omega) (by omega), show ((d : Int) + 1) = ((d + 1 : Nat) : Int) by omega]
    have := ih k (d + 1) (by omega) (by omega)
    rw [coversB_succ] at this
    exact this
theorem meetS_l0 (h1 : 1 ≤ r) (h2 : r ≤ 6) (h3 : 1 ≤ c) (h4 : c ≤ 6) (h5 : ms.length = r) (h6 : ∀ x ∈ ms, x < 2 ^ c) (h64 : ∀ x ∈ ms, x < 64) (e9 : (emptyN c ms r).length ≤ 9) (hl : l.length = (emptyN c ms r).length) (ok : ∀ d, d < m → okP r c ms (emptyN c ms r) l d = true) (hm : m ≤ 4) : ∀ (e k d : Nat), d + e = m → 4000 + e < k →
    spec_MeetOfBiorders.l0 k (m : Int) ((emptyN c ms r).map (fun (x : Nat) => (x : Int))) (l.map (fun (x : Nat) => (x : Int))) (coversB r c ms (emptyN c ms r) l d) (d : Int) (r : Int) (c : Int) (ms.map (fun (x : Nat) => (x : Int))) = some (coversB r c ms (emptyN c ms r) l m, true) := by
  intro e
  induction e with
  | zero =>
    intro k d hd hk
    obtain ⟨k, rfl⟩ : ∃ m, k = m + 1 := ⟨k - 1, by omega⟩
    have : d = m := by omega
    subst this
    rw [spec_MeetOfBiorders.l0, if_neg (by omega)]
  | succ e ih =>
    intro k d hd hk
    obtain ⟨k, rfl⟩ : ∃ m, k = m + 1 := ⟨k - 1, by omega⟩
    obtain ⟨o1, o2, o3, o4⟩ := ordP_facts r c ms (emptyN c ms r) l d (ok d (by omega))
    have pl := partTo_length (emptyN c ms r) l d l.length
    have plt := partN_lt (ms := ms) (R := r) (C := c) hl d
    have c5 : (coversB r c ms (emptyN c ms r) l d).length < 3518437208883 := by rw [coversB_length]; omega
    rw [spec_MeetOfBiorders.l0, if_pos (by omega), fePart_k (emptyN c ms r) l d (by omega) (by omega) k (by omega)]
    simp only [Option.bind_some]
    rw [feOrder_k r c ms (partN (emptyN c ms r) l d) h5 h2 h3 h4 h64 plt (by unfold partN; omega) k (by unfold partN; omega), o1]
    simp only [Option.bind_some]
    rw [(cover_k r c ms (ordP r c ms (emptyN c ms r) l d) h5 h2 h4 h6 o3 (by omega) k (by omega)).2]
    simp only [Option.bind_some, if_pos c5]
    rw [wrap_ok (by omega) (by omega), show ((d : Int) + 1) = ((d + 1 : Nat) : Int) by omega]
    have := ih k (d + 1) (by omega) (by omega)
    rw [coversB_succ] at this
    exact this
end
theorem coversB_short (r c : Nat) (ms es l : List Nat) (n : Nat) (hr : r ≤ 6) : ∀ x ∈ coversB r c ms es l n, x.f2.length ≤ 6 := by
  intro x hx
  obtain ⟨d, _, rfl⟩ := List.mem_map.1 hx
  simp only [coverB, List.length_map]
  have := covN_length r ms (ordP r c ms es l d) (ordP r c ms es l d).length
  unfold covP
  omega
theorem meet_both (R C : Int) (M : List Int) (hM : M.length ≤ 1048576) : ∃ (X : List S29) (b : Bool), (∀ x ∈ X, x.f2.length ≤ 6) ∧ X.length ≤ 4 ∧ (∀ k, M.length + 20000 < k → impl_MeetOfBiorders.f k R C M = some (X, b)) ∧ (∀ k, M.length + 20000 < k → spec_MeetOfBiorders.f k R C M = some (X, b)) := by
  have none_ : (∀ k, M.length + 20000 < k → impl_LeastParts.f k R C M = some (0, false)) → (∀ k, M.length + 20000 < k → spec_LeastParts.f k R C M = some (0, false)) → ∃ (X : List S29) (b : Bool), (∀ x ∈ X, x.f2.length ≤ 6) ∧ X.length ≤ 4 ∧ (∀ k, M.length + 20000 < k → impl_MeetOfBiorders.f k R C M = some (X, b)) ∧ (∀ k, M.length + 20000 < k → spec_MeetOfBiorders.f k R C M = some (X, b)) := by
    intro hI hS
    refine ⟨[], false, by simp, by simp, fun k hk => ?_, fun k hk => ?_⟩
    · unfold impl_MeetOfBiorders.f; rw [hI k hk]; rfl
    · unfold spec_MeetOfBiorders.f; rw [hS k hk]; rfl
  rcases split_dec R C M (by omega) with dec | ⟨dec, r, c, ms, rfl, rfl, rfl, h1, h2, h3, h4, h5, h64, h9⟩
  · refine none_ (fun k hk => ?_) (fun k hk => ?_)
    · unfold impl_LeastParts.f
      rw [(dec k (by omega)).1]
      rfl
    · unfold spec_LeastParts.f
      rw [(dec k (by omega)).2]
      rfl
  have e9 : (emptyN c ms r).length ≤ 9 := by rw [emptyN_length]; exact h9
  have lm : (ms.map (fun (x : Nat) => (x : Int))).length = r := by simp [h5]
  have hT : isTab (r : Int) (c : Int) (ms.map (fun (x : Nat) => (x : Int))) = true := by
    cases hT : isTab (r : Int) (c : Int) (ms.map (fun (x : Nat) => (x : Int)))
    · have := (dec 2000 (by omega)).1
      unfold impl_isSplit.f at this
      rw [IsTable_k _ _ _ (by omega) 2000 (by omega), hT] at this
      simp at this
    · rfl
  have h6 : ∀ x ∈ ms, x < 2 ^ c := by
    obtain ⟨r', c', ms', e1, e2, e3, _, _, _, _, _, h6⟩ := (isTab_iff _ _ _).1 hT
    have ec : c' = c := by omega
    subst ec
    intro x hx
    have : (x : Int) ∈ ms'.map (fun (x : Nat) => (x : Int)) := by rw [← e3]; exact List.mem_map.2 ⟨x, hx, rfl⟩
    obtain ⟨y, hy, e⟩ := List.mem_map.1 this
    have : y = x := by omega
    rw [← this]; exact h6 y hy
  have LI : ∀ k, 10000 ≤ k → impl_LeastParts.f k (r : Int) (c : Int) (ms.map (fun (x : Nat) => (x : Int))) = some (((leastFrom r c ms (emptyN c ms r) 4 1 : Nat) : Int), decide (((leastFrom r c ms (emptyN c ms r) 4 1 : Nat) : Int) > 0)) := by
    intro k hk
    unfold impl_LeastParts.f impl_Table_leastParts.f
    rw [(dec k (by omega)).1]
    simp only [Option.bind_some, if_true]
    have := leastParts_l0 r c ms h1 h2 h3 h4 h5 h64 e9 4 1 k (by omega) (by omega)
    rw [show ((1 : Nat) : Int) = 1 from rfl] at this
    rw [this]
    rfl
  have LS : ∀ k, 10000 ≤ k → spec_LeastParts.f k (r : Int) (c : Int) (ms.map (fun (x : Nat) => (x : Int))) = some (((leastFrom r c ms (emptyN c ms r) 4 1 : Nat) : Int), decide (((leastFrom r c ms (emptyN c ms r) 4 1 : Nat) : Int) > 0)) := by
    intro k hk
    unfold spec_LeastParts.f
    rw [(dec k (by omega)).2]
    simp only [Option.bind_some, if_true]
    exact leastPartsS_l0 r c ms h1 h2 h3 h4 h5 h64 e9 4 1 k (by omega) (by omega) (by omega)
  generalize hmm : leastFrom r c ms (emptyN c ms r) 4 1 = m at LI LS
  by_cases hm0 : m = 0
  · subst hm0
    exact none_ (fun k hk => LI k (by omega)) (fun k hk => LS k (by omega))
  clear none_
  have hm1 : 1 ≤ m := by omega
  have hm4 : m ≤ 4 := by
    rcases leastFrom_pos r c ms (emptyN c ms r) 4 1 (by omega) (by omega) with h | h
    · omega
    · omega
  obtain ⟨hsome, hless⟩ := least_some (R := r) (C := c) (ms := ms) (emptyN c ms r) 4 1 (by omega)
  rw [hmm] at hsome hless
  cases hs : spl r c ms (emptyN c ms r) m (emptyN c ms r).length [] with
  | none => rw [hs] at hsome; cases hsome
  | some l =>
    have hll := spl_length r c ms _ m _ _ _ hs
    simp only [List.length_nil, Nat.zero_add] at hll
    obtain ⟨ok, lt⟩ := spl_ok r c ms _ m _ _ _ hs (fun d _ => okP_nil r c ms _ d) (by simp)
    have hpos : decide (((m : Nat) : Int) > 0) = true := by rw [decide_eq_true_eq]; omega
    rw [hpos] at LI LS
    refine ⟨coversB r c ms (emptyN c ms r) l m, true, coversB_short _ _ _ _ _ _ h2, by rw [coversB_length]; omega, fun K hK => ?_, fun K hK => ?_⟩
    · unfold impl_MeetOfBiorders.f impl_Table_splitN.f
      rw [LI _ (by omega)]
      simp only [Option.bind_some, if_true]
      rw [split_impl r c ms h1 h2 h3 h4 h5 h64 e9 m hm4 K (by omega), hs]
      simp only [Option.bind_some, Option.map_some, id]
      exact meetI_l0 h1 h2 h3 h4 h5 h6 h64 e9 hll ok hm4 m K 0 (by omega) (by omega)
    · unfold spec_MeetOfBiorders.f
      rw [LS _ (by omega)]
      simp only [Option.bind_some, if_true]
      rw [feEmpty_k r c ms h5 h2 h4 h64 K (by omega)]
      simp only [Option.bind_some]
      rw [split_spec r c ms h1 h2 h3 h4 h5 h64 e9 m hm4 K (by omega), hs]
      simp only [Option.bind_some, handed]
      rw [← emptyN_map]
      exact meetS_l0 h1 h2 h3 h4 h5 h6 h64 e9 hll ok hm4 m K 0 (by omega) (by omega)

theorem FnExactMeetOfBiorders : laws_FnExactMeetOfBiorders.Pure := by
  intro R C M _ _ hm _
  by_cases h : M.length ≤ 1048576
  · obtain ⟨X, b, hX, hl, hI, hS⟩ := meet_both R C M h
    have he := (endT_le 6 X 1 hX).2
    have e0 := (endT_le 6 X 1 hX).1
    have e1 : endT 1 X < 4611686018427387904 := by omega
    refine ⟨M.length + 20010, ?_⟩
    unfold laws_FnExactMeetOfBiorders.f
    rw [szTable_eq R C M hm, if_pos h]
    simp only [Option.bind_some]
    rw [if_neg (by omega)]
    repeat (first
      | (rw [toTable_k R C M h _ (by omega)]; simp only [Option.bind_some])
      | (rw [hS _ (by omega)]; simp only [Option.bind_some])
      | (rw [hI _ (by omega)]; simp only [Option.bind_some])
      | (rw [eqTable_k _ _ _ (by omega) _ (by omega)]; simp only [Option.bind_some])
      | (rw [markTable_k _ _ _ (by omega) _ (by omega)]; simp only [Option.bind_some])
      | (rw [eqTableS_k 6 (by omega) X hX (by omega) _ (by omega)]; simp only [Option.bind_some])
      | (rw [markTableS_k 6 (by omega) X hX (by omega) _ (by omega) e1]; simp only [Option.bind_some])
      | (rw [heldTableS_k 6 (by omega) X hX (by omega) _ (by omega) e1]; simp only [Option.bind_some])
      | (simp only [if_true, Bool.false_eq_true, if_false, bne_self_eq_false, if_neg (one_add_nonneg _), if_pos rfl]; done)
      | (rw [if_neg (one_add_nonneg _)])
      | (rw [if_neg (show ¬ endT 1 X < 0 by omega)])
      | (rw [laws_FnExactMeetOfBiorders.j0]; simp only [Bool.false_eq_true, if_false, if_true])
      | (rw [laws_FnExactMeetOfBiorders.j1]; simp only [Bool.false_eq_true, if_false, if_true])
      | (rw [laws_FnExactMeetOfBiorders.j2]; simp only [Bool.false_eq_true, if_false, if_true])
      | (simp only [if_true, Bool.false_eq_true, if_false, bne_self_eq_false]))
  · refine ⟨1, ?_⟩
    unfold laws_FnExactMeetOfBiorders.f
    rw [szTable_eq R C M hm, if_neg h]
    simp

end Go.Proofs.Ytboaffpfphkneaa.Pure
