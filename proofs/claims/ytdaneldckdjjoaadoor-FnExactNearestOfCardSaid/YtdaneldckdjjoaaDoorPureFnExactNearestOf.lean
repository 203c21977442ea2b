/- NearestOf: the program tells of every relation and kind what the reference tells; the card: the tables of the library as the program lays them. -/
import Derived.Test.YtdaneldckdjjoaaDoorPFnExactNearestOfx11
namespace Go.Proofs.YtdaneldckdjjoaaDoor.Pure
open Go.RowKit Go.Proofs.YtdaneldckdjjoaaDoor.PFnExactNearestOf Go.Proofs.YtdaneldckdjjoaaDoorW.PrintWords Go.Proofs.YtdaneldckdjjoaaDoorW.PrintLast Go.Proofs.YtdaneldckdjjoaaDoorW.PrintMore Go.Proofs.YtdaneldckdjjoaaDoorA
set_option linter.unusedVariables false
set_option linter.unusedSimpArgs false

theorem wrap_ok {x : Int} (h0 : -9223372036854775808 ≤ x) (h1 : x < 9223372036854775808) : wrap64 x = x := by unfold wrap64; omega
theorem wf_bounds {x : Int} (h : (Lit.int .i64 x).wf = true) : -9223372036854775808 ≤ x ∧ x < 9223372036854775808 := by
  have e : IntKind.i64.min ≤ x ∧ x ≤ 9223372036854775807 := by simpa [Lit.wf] using h
  have m : IntKind.i64.min = -9223372036854775808 := by decide
  omega
theorem rd_nat (l : List Int) (i : Nat) : rd l (i : Int) = l.getD i 0 := by simp [rd]

theorem toIntS_l0 (l : List Int) (hl : l.length ≤ 4611686018427387904) : ∀ (d k i : Nat) (x : List Int), i + d = l.length → d < k → x.length = l.length → (∀ j, j < i → x[j]? = l[j]?) → laws_toIntS.l0 k l x (i : Int) = some l := by
  intro d
  induction d with
  | zero =>
    intro k i x h hk hx hj
    obtain ⟨k, rfl⟩ : ∃ m, k = m + 1 := ⟨k - 1, by omega⟩
    simp only [laws_toIntS.l0]
    rw [if_neg (by omega)]
    congr 1
    apply List.ext_getElem?
    intro j
    by_cases hji : j < i
    · exact hj j hji
    · rw [List.getElem?_eq_none (by omega), List.getElem?_eq_none (by omega)]
  | succ d ih =>
    intro k i x h hk hx hj
    obtain ⟨k, rfl⟩ : ∃ m, k = m + 1 := ⟨k - 1, by omega⟩
    simp only [laws_toIntS.l0]
    rw [if_pos (by omega), if_pos (by omega), if_pos (by omega), wrap_ok (by omega) (by omega)]
    have e : ((i : Int) + 1) = ((i + 1 : Nat) : Int) := by omega
    rw [e]
    refine ih k (i + 1) _ (by omega) (by omega) (by simpa using hx) ?_
    intro j hji
    have e2 : (i : Int).toNat = i := by omega
    rw [e2, List.getElem?_set]
    by_cases hj2 : i = j
    · subst hj2
      rw [if_pos rfl, if_pos (by omega), rd_nat, List.getElem?_eq_getElem (by omega)]
      simp
      rw [List.getElem?_eq_getElem (by omega)]
      rfl
    · rw [if_neg hj2]
      exact hj j (by omega)
theorem toIntS_k (l : List Int) (hl : l.length ≤ 1048576) (k : Nat) (hk : l.length < k) : laws_toIntS.f k l = some l := by
  unfold laws_toIntS.f
  rw [if_pos (by omega), if_pos (by omega)]
  exact toIntS_l0 l (by omega) l.length k 0 _ (by omega) hk (by simp) (by intro j hj; omega)
theorem toIntS_ev (l : List Int) (hl : l.length ≤ 1048576) : Ev (fun k => laws_toIntS.f k l) l := ⟨l.length + 1, fun k hk => toIntS_k l hl k (by omega)⟩

theorem eqIntS_l0 (l : List Int) (hl : l.length ≤ 4611686018427387904) : ∀ (d k i : Nat), i + d = l.length → d < k → laws_eqIntS.l0 k l l (i : Int) = some true := by
  intro d
  induction d with
  | zero =>
    intro k i h hk
    obtain ⟨k, rfl⟩ : ∃ m, k = m + 1 := ⟨k - 1, by omega⟩
    simp only [laws_eqIntS.l0]
    rw [if_neg (by omega)]
  | succ d ih =>
    intro k i h hk
    obtain ⟨k, rfl⟩ : ∃ m, k = m + 1 := ⟨k - 1, by omega⟩
    simp only [laws_eqIntS.l0]
    rw [if_pos (by omega), if_pos (by omega), if_pos (by omega), if_true, wrap_ok (by omega) (by omega)]
    have e : ((i : Int) + 1) = ((i + 1 : Nat) : Int) := by omega
    rw [e]
    exact ih k (i + 1) (by omega) (by omega)
theorem eqIntS_k (l : List Int) (hl : l.length ≤ 4611686018427387904) (k : Nat) (hk : l.length < k) : laws_eqIntS.f k l l = some true := by
  unfold laws_eqIntS.f
  rw [if_pos rfl]
  exact eqIntS_l0 l hl l.length k 0 (by omega) hk
theorem eqIntS_ev (l : List Int) (hl : l.length ≤ 4611686018427387904) : Ev (fun k => laws_eqIntS.f k l l) true := ⟨l.length + 1, fun k hk => eqIntS_k l hl k (by omega)⟩

theorem within_eq (a b c : Int) : impl_within.f a b c = some (decide (b ≤ a ∧ a ≤ c)) := by
  unfold impl_within.f
  by_cases h : a ≥ b <;> simp [h] <;> omega
theorem l1In_eq (a b c : Int) : spec_l1In.f a b c = some (decide (b ≤ a ∧ a ≤ c)) := by
  unfold spec_l1In.f
  by_cases h : a ≥ b <;> simp [h] <;> omega

def allIn (l : List Int) (a b : Int) : Bool := l.all fun x => decide (a ≤ x ∧ x ≤ b)
theorem getD_drop (l : List Int) (i : Nat) (h : i < l.length) : l.drop i = l.getD i 0 :: l.drop (i + 1) := by
  rw [List.drop_eq_getElem_cons h]
  simp [h]
theorem allWithin_l0 (l : List Int) (a b : Int) (hl : l.length ≤ 4611686018427387904) : ∀ (d k i : Nat), i + d = l.length → d < k → impl_allWithin.l0 k a b l (l.length : Int) (i : Int) = some (allIn (l.drop i) a b) := by
  intro d
  induction d with
  | zero =>
    intro k i h hk
    obtain ⟨k, rfl⟩ : ∃ m, k = m + 1 := ⟨k - 1, by omega⟩
    simp only [impl_allWithin.l0]
    rw [if_neg (by omega), List.drop_eq_nil_of_le (by omega)]
    rfl
  | succ d ih =>
    intro k i h hk
    obtain ⟨k, rfl⟩ : ∃ m, k = m + 1 := ⟨k - 1, by omega⟩
    simp only [impl_allWithin.l0]
    rw [if_pos (by omega), if_pos (by omega), if_pos (by omega), wrap_ok (by omega) (by omega), within_eq, getD_drop l i (by omega), rd_nat]
    have e : ((i : Int) + 1) = ((i + 1 : Nat) : Int) := by omega
    rw [e, ih k (i + 1) (by omega) (by omega)]
    simp only [Option.bind_some, allIn, List.all_cons]
    cases decide (a ≤ l.getD i 0 ∧ l.getD i 0 ≤ b) <;> simp
theorem allWithin_k (l : List Int) (a b : Int) (hl : l.length ≤ 4611686018427387904) (k : Nat) (hk : l.length < k) : impl_allWithin.f k l a b = some (allIn l a b) := by
  unfold impl_allWithin.f
  exact allWithin_l0 l a b hl l.length k 0 (by omega) hk
theorem l1All_l0 (l : List Int) (a b : Int) (hl : l.length ≤ 4611686018427387904) : ∀ (d k i : Nat), i + d = l.length → d < k → spec_l1All.l0 k a b l (l.length : Int) (i : Int) = some (allIn (l.drop i) a b) := by
  intro d
  induction d with
  | zero =>
    intro k i h hk
    obtain ⟨k, rfl⟩ : ∃ m, k = m + 1 := ⟨k - 1, by omega⟩
    simp only [spec_l1All.l0]
    rw [if_neg (by omega), List.drop_eq_nil_of_le (by omega)]
    rfl
  | succ d ih =>
    intro k i h hk
    obtain ⟨k, rfl⟩ : ∃ m, k = m + 1 := ⟨k - 1, by omega⟩
    simp only [spec_l1All.l0]
    rw [if_pos (by omega), if_pos (by omega), if_pos (by omega), wrap_ok (by omega) (by omega), l1In_eq, getD_drop l i (by omega), rd_nat]
    have e : ((i : Int) + 1) = ((i + 1 : Nat) : Int) := by omega
    rw [e, ih k (i + 1) (by omega) (by omega)]
    simp only [Option.bind_some, allIn, List.all_cons]
    cases decide (a ≤ l.getD i 0 ∧ l.getD i 0 ≤ b) <;> simp
theorem l1All_k (l : List Int) (a b : Int) (hl : l.length ≤ 4611686018427387904) (k : Nat) (hk : l.length < k) : spec_l1All.f k l a b = some (allIn l a b) := by
  unfold spec_l1All.f
  exact l1All_l0 l a b hl l.length k 0 (by omega) hk

/-! Sets as numbers. -/
def andn (a b : Nat) : Nat := a ^^^ (a &&& b)
theorem andn_bit (a b i : Nat) : (andn a b).testBit i = (a.testBit i && !b.testBit i) := by
  unfold andn
  rw [Nat.testBit_xor, Nat.testBit_and]
  cases a.testBit i <;> cases b.testBit i <;> rfl
theorem wrap_i64_nat (n : Nat) (h : n < 2 ^ 63) : IntKind.i64.wrap (n : Int) = (n : Int) := by
  rw [IntKind.wrap_i64]
  have : (n : Int) < 9223372036854775808 := by omega
  omega
theorem ofInt_toNat (n : Nat) (h : n < 2 ^ 63) : (BitVec.ofInt 64 (n : Int)).toNat = n := by
  rw [BitVec.ofInt_natCast, BitVec.toNat_ofNat, Nat.mod_eq_of_lt (by omega)]
theorem and_nat (a b : Nat) (ha : a < 2 ^ 63) (hb : b < 2 ^ 63) : Go.bits .and .i64 (a : Int) (b : Int) = ((a &&& b : Nat) : Int) := by
  unfold Go.bits
  show IntKind.i64.wrap ((BitVec.ofInt 64 (a : Int) &&& BitVec.ofInt 64 (b : Int)).toNat : Int) = _
  rw [BitVec.toNat_and, ofInt_toNat a ha, ofInt_toNat b hb]
  exact wrap_i64_nat _ (Nat.lt_of_le_of_lt Nat.and_le_left ha)
theorem or_nat (a b : Nat) (ha : a < 2 ^ 63) (hb : b < 2 ^ 63) : Go.bits .or .i64 (a : Int) (b : Int) = ((a ||| b : Nat) : Int) := by
  unfold Go.bits
  show IntKind.i64.wrap ((BitVec.ofInt 64 (a : Int) ||| BitVec.ofInt 64 (b : Int)).toNat : Int) = _
  rw [BitVec.toNat_or, ofInt_toNat a ha, ofInt_toNat b hb]
  exact wrap_i64_nat _ (Nat.or_lt_two_pow ha hb)
theorem xor_nat (a b : Nat) (ha : a < 2 ^ 63) (hb : b < 2 ^ 63) : Go.bits .xor .i64 (a : Int) (b : Int) = ((a ^^^ b : Nat) : Int) := by
  unfold Go.bits
  show IntKind.i64.wrap ((BitVec.ofInt 64 (a : Int) ^^^ BitVec.ofInt 64 (b : Int)).toNat : Int) = _
  rw [BitVec.toNat_xor, ofInt_toNat a ha, ofInt_toNat b hb]
  exact wrap_i64_nat _ (Nat.xor_lt_two_pow ha hb)
theorem andn_le (a b : Nat) : andn a b ≤ a := Nat.le_of_testBit fun i h => by
  rw [andn_bit] at h
  cases h1 : a.testBit i
  · simp [h1] at h
  · rfl
theorem andNot_nat (a b : Nat) (ha : a < 2 ^ 63) (hb : b < 2 ^ 63) : Go.bits .andNot .i64 (a : Int) (b : Int) = ((andn a b : Nat) : Int) := by
  unfold Go.bits
  show IntKind.i64.wrap ((BitVec.ofInt 64 (a : Int) &&& ~~~ BitVec.ofInt 64 (b : Int)).toNat : Int) = _
  have e : (BitVec.ofInt 64 (a : Int) &&& ~~~ BitVec.ofInt 64 (b : Int)).toNat = andn a b := by
    apply Nat.eq_of_testBit_eq
    intro i
    rw [andn_bit, BitVec.toNat_and, Nat.testBit_and, ofInt_toNat a ha, BitVec.testBit_toNat, BitVec.getLsbD_not, BitVec.ofInt_natCast, BitVec.getLsbD_ofNat]
    by_cases hi : i < 64
    · rw [decide_eq_true hi]
      simp only [Bool.true_and]
    · have : a.testBit i = false := Nat.testBit_lt_two_pow (Nat.lt_of_lt_of_le ha (Nat.pow_le_pow_right (by omega) (by omega)))
      simp [this]
  rw [e]
  exact wrap_i64_nat _ (Nat.lt_of_le_of_lt (andn_le a b) ha)
theorem andn_zero (a b : Nat) : andn a b = 0 ↔ ∀ i, a.testBit i = true → b.testBit i = true := by
  constructor
  · intro h i hi
    have := andn_bit a b i
    rw [h, hi] at this
    cases hb : b.testBit i
    · simp [hb] at this
    · rfl
  · intro h
    apply Nat.eq_of_testBit_eq
    intro i
    rw [andn_bit]
    cases ha : a.testBit i
    · simp
    · simp [h i ha]
theorem andn_zero_le {a b : Nat} (h : andn a b = 0) : a ≤ b := Nat.le_of_testBit fun i hi => (andn_zero a b).1 h i hi
theorem andNot_le {p i : Int} (h0 : 0 ≤ p) (h1 : 0 ≤ i) (hp : p < 9223372036854775808) (hi : i < 9223372036854775808) (h : Go.bits .andNot .i64 p i = 0) : p ≤ i := by
  obtain ⟨a, rfl⟩ := Int.eq_ofNat_of_zero_le h0
  obtain ⟨b, rfl⟩ := Int.eq_ofNat_of_zero_le h1
  rw [andNot_nat a b (by omega) (by omega)] at h
  have := andn_zero_le (a := a) (b := b) (by omega)
  omega

/-- The numbers a, a + 1, .. -/
def iota (a : Int) (n : Nat) : List Int := (List.range n).map fun (j : Nat) => a + (j : Int)
theorem iota_length (a : Int) (n : Nat) : (iota a n).length = n := by simp [iota]
theorem markIntS_l0 (a : Int) (h0 : 0 ≤ a) : ∀ (d k i : Nat) (l : List Int), i + d = l.length → d < k → a + l.length < 4611686018427387904 → (∀ j, j < i → l[j]? = some (a + (j : Int))) →
    laws_markIntS.l0 k l (a + (i : Int)) (i : Int) = some (a + (l.length : Int), iota a l.length) := by
  intro d
  induction d with
  | zero =>
    intro k i l h hk ha hj
    obtain ⟨k, rfl⟩ : ∃ m, k = m + 1 := ⟨k - 1, by omega⟩
    simp only [laws_markIntS.l0]
    rw [if_neg (by omega)]
    have e : i = l.length := by omega
    subst e
    have e2 : l = iota a l.length := by
      apply List.ext_getElem?
      intro j
      by_cases hj2 : j < l.length
      · rw [hj j hj2]
        simp [iota, hj2]
      · rw [List.getElem?_eq_none (by omega), List.getElem?_eq_none (by rw [iota_length]; omega)]
    rw [← e2]
  | succ d ih =>
    intro k i l h hk ha hj
    obtain ⟨k, rfl⟩ : ∃ m, k = m + 1 := ⟨k - 1, by omega⟩
    simp only [laws_markIntS.l0]
    rw [if_pos (by omega), if_pos (by omega), wrap_ok (by omega) (by omega), wrap_ok (by omega) (by omega)]
    have e1 : ((i : Int) + 1) = ((i + 1 : Nat) : Int) := by omega
    have e2 : (a + (i : Int) + 1) = a + ((i + 1 : Nat) : Int) := by omega
    have e3 : (i : Int).toNat = i := by omega
    rw [e1, e2, e3]
    have := ih k (i + 1) (l.set i (a + (i : Int))) (by simp; omega) (by omega) (by simpa using ha) (by
      intro j hji
      rw [List.getElem?_set]
      by_cases e : i = j
      · subst e
        rw [if_pos rfl, if_pos (by omega)]
      · rw [if_neg e]
        exact hj j (by omega))
    simpa using this
theorem markIntS_k (l : List Int) (a : Int) (h0 : 0 ≤ a) (ha : a + l.length < 4611686018427387904) (k : Nat) (hk : l.length < k) : laws_markIntS.f k l a = some (a + (l.length : Int), iota a l.length) := by
  unfold laws_markIntS.f
  have := markIntS_l0 a h0 l.length k 0 l (by omega) hk ha (by intro j hj; omega)
  simpa using this
theorem heldIntS_l0 (a : Int) (n : Nat) (h0 : 0 ≤ a) (ha : a + n < 4611686018427387904) : ∀ (d k i : Nat), i + d = n → d < k → laws_heldIntS.l0 k (iota a n) (a + (i : Int)) (i : Int) = some (a + (n : Int)) := by
  intro d
  induction d with
  | zero =>
    intro k i h hk
    obtain ⟨k, rfl⟩ : ∃ m, k = m + 1 := ⟨k - 1, by omega⟩
    simp only [laws_heldIntS.l0, iota_length]
    rw [if_neg (by omega)]
    congr 1
    omega
  | succ d ih =>
    intro k i h hk
    obtain ⟨k, rfl⟩ : ∃ m, k = m + 1 := ⟨k - 1, by omega⟩
    simp only [laws_heldIntS.l0, iota_length]
    have e4 : rd (iota a n) (i : Int) = a + (i : Int) := by
      rw [rd_nat]
      simp [iota, List.getD_eq_getElem?_getD, show i < n by omega]
    rw [if_pos (by omega), if_pos (by omega), if_pos e4, wrap_ok (by omega) (by omega), wrap_ok (by omega) (by omega)]
    have e1 : ((i : Int) + 1) = ((i + 1 : Nat) : Int) := by omega
    have e2 : (a + (i : Int) + 1) = a + ((i + 1 : Nat) : Int) := by omega
    rw [e1, e2]
    exact ih k (i + 1) (by omega) (by omega)
theorem heldIntS_k (a : Int) (n : Nat) (h0 : 0 ≤ a) (ha : a + n < 4611686018427387904) (k : Nat) (hk : n < k) : laws_heldIntS.f k (iota a n) a = some (a + (n : Int)) := by
  unfold laws_heldIntS.f
  have := heldIntS_l0 a n h0 ha n k 0 (by omega) hk
  simpa using this
theorem one_add_nonneg (m : Nat) : ¬ (1 + (m : Int) < 0) := by omega

/-- The set of the j < n for which q tells true. -/
def bitsum (q : Nat → Bool) : Nat → Nat
  | 0 => 0
  | j + 1 => bitsum q j ||| (if q j then 2 ^ j else 0)
theorem bitsum_lt (q : Nat → Bool) (n : Nat) : bitsum q n < 2 ^ n := by
  induction n with
  | zero => simp [bitsum]
  | succ n ih =>
    rw [bitsum]
    apply Nat.or_lt_two_pow
    · exact Nat.lt_of_lt_of_le ih (Nat.pow_le_pow_right (by omega) (by omega))
    · split
      · exact Nat.pow_lt_pow_right (by omega) (by omega)
      · exact Nat.two_pow_pos _
theorem bitsum_bit (q : Nat → Bool) (n i : Nat) : (bitsum q n).testBit i = (decide (i < n) && q i) := by
  induction n with
  | zero => simp [bitsum]
  | succ n ih =>
    rw [bitsum, Nat.testBit_or, ih]
    by_cases e : i = n
    · subst e
      cases h : q i <;> simp [Nat.testBit_two_pow_self]
    · have : (if q n then 2 ^ n else 0).testBit i = false := by
        split
        · rw [Nat.testBit_two_pow_of_ne (by omega)]
        · simp
      rw [this]
      by_cases h : i < n
      · simp [h, show i < n + 1 by omega]
      · simp [h, show ¬ i < n + 1 by omega]
theorem bitsum_congr {q q' : Nat → Bool} (n : Nat) (h : ∀ i, i < n → q i = q' i) : bitsum q n = bitsum q' n := by
  induction n with
  | zero => rfl
  | succ n ih => rw [bitsum, bitsum, ih (fun i hi => h i (by omega)), h n (by omega)]
theorem shl_one (j : Nat) (h : j < 62) : shl .i64 1 (j : Int) = ((2 ^ j : Nat) : Int) := by
  unfold shl
  have e : min (j : Int).toNat IntKind.i64.bits = j := by
    show min (j : Int).toNat 64 = j
    omega
  rw [e]
  have e2 : (1 : Int) * 2 ^ j = ((2 ^ j : Nat) : Int) := by simp
  rw [e2]
  exact wrap_i64_nat _ (Nat.pow_lt_pow_right (by omega) (by omega))
theorem or_shl (a j : Nat) (ha : a < 2 ^ 62) (hj : j < 62) : Go.bits .or .i64 (a : Int) (shl .i64 1 (j : Int)) = ((a ||| 2 ^ j : Nat) : Int) := by
  rw [shl_one j hj]
  exact or_nat a _ (Nat.lt_of_lt_of_le ha (by decide)) (Nat.pow_lt_pow_right (by omega) (by omega))
/-- The rows' sets. -/
def relList (R C : Nat) (p : Nat → Nat → Bool) : List Int := (List.range R).map fun i => ((bitsum (p i) C : Nat) : Int)
theorem relList_length (R C : Nat) (p : Nat → Nat → Bool) : (relList R C p).length = R := by simp [relList]
theorem relList_congr {R C : Nat} {p p' : Nat → Nat → Bool} (h : ∀ i j, i < R → j < C → p i j = p' i j) : relList R C p = relList R C p' := by
  unfold relList
  apply List.map_congr_left
  intro i hi
  rw [bitsum_congr C (fun j hj => h i j (by simpa using hi) hj)]
/-- A list that is being filled: the first i rows are whole, the row i has the columns < j, the others are 0. -/
def part (R C : Nat) (p : Nat → Nat → Bool) (i j : Nat) : List Int := (List.range R).map fun r => if r < i then ((bitsum (p r) C : Nat) : Int) else if r = i then ((bitsum (p r) j : Nat) : Int) else 0
theorem part_length (R C : Nat) (p : Nat → Nat → Bool) (i j : Nat) : (part R C p i j).length = R := by simp [part]
theorem part_start (R C : Nat) (p : Nat → Nat → Bool) : List.replicate R 0 = part R C p 0 0 := by
  apply List.ext_getElem?
  intro r
  by_cases h : r < R
  · simp [part, h, List.getElem?_replicate, bitsum]
  · rw [List.getElem?_eq_none (by simp; omega), List.getElem?_eq_none (by rw [part_length]; omega)]
theorem part_next (R C : Nat) (p : Nat → Nat → Bool) (i : Nat) : part R C p i C = part R C p (i + 1) 0 := by
  apply List.ext_getElem?
  intro r
  by_cases h : r < R
  · simp only [part, List.getElem?_map, List.getElem?_range h, Option.map_some]
    by_cases h1 : r < i
    · simp [h1, show r < i + 1 by omega]
    · by_cases h2 : r = i
      · simp [h2]
      · simp [h1, h2, show ¬ r < i + 1 by omega, bitsum]
  · rw [List.getElem?_eq_none (by rw [part_length]; omega), List.getElem?_eq_none (by rw [part_length]; omega)]
theorem part_end (R C : Nat) (p : Nat → Nat → Bool) : part R C p R 0 = relList R C p := by
  unfold part relList
  apply List.map_congr_left
  intro r hr
  rw [if_pos (by simpa using hr)]
theorem part_rd (R C : Nat) (p : Nat → Nat → Bool) (i j : Nat) (hi : i < R) : rd (part R C p i j) (i : Int) = ((bitsum (p i) j : Nat) : Int) := by
  rw [rd_nat]
  simp [part, List.getD_eq_getElem?_getD, hi]
theorem part_set (R C : Nat) (p : Nat → Nat → Bool) (i j : Nat) (hi : i < R) (hp : p i j = true) : (part R C p i j).set i ((bitsum (p i) j ||| 2 ^ j : Nat) : Int) = part R C p i (j + 1) := by
  apply List.ext_getElem?
  intro r
  by_cases h : r < R
  · rw [List.getElem?_set]
    simp only [part, List.getElem?_map, List.getElem?_range h, Option.map_some, List.length_map, List.length_range]
    by_cases e : i = r
    · subst e
      simp [h, bitsum, hp]
    · rw [if_neg e]
      simp [show ¬ r = i from fun h => e h.symm]
  · rw [List.getElem?_eq_none (by simp [part_length]; omega), List.getElem?_eq_none (by rw [part_length]; omega)]
theorem part_skip (R C : Nat) (p : Nat → Nat → Bool) (i j : Nat) (hp : p i j = false) : part R C p i j = part R C p i (j + 1) := by
  unfold part
  apply List.map_congr_left
  intro r _
  by_cases h1 : r < i
  · simp [h1]
  · by_cases h2 : r = i
    · subst h2
      simp [bitsum, hp]
    · simp [h1, h2]

theorem eqOrder_k (n : Int) (l : List Int) (hl : l.length ≤ 4611686018427387904) (k : Nat) (hk : l.length < k) : laws_eqOrder.f k n l n l = some true := by
  unfold laws_eqOrder.f
  rw [if_pos rfl, eqIntS_k l hl k hk]
  rfl
theorem markOrder_k (n : Int) (l : List Int) (hl : l.length ≤ 1048576) (k : Nat) (hk : l.length < k) : laws_markOrder.f k n l 1 = some (1 + (l.length : Int), iota 1 l.length) := by
  unfold laws_markOrder.f
  rw [markIntS_k l 1 (by omega) (by omega) k hk]
  rfl
theorem heldOrder_k (n : Int) (m : Nat) (hl : m ≤ 1048576) (k : Nat) (hk : m < k) : laws_heldOrder.f k n (iota 1 m) 1 = some (1 + (m : Int)) := by
  unfold laws_heldOrder.f
  rw [heldIntS_k 1 m (by omega) (by omega) k hk]
  simp only [Option.bind_some]
  rw [if_neg (by omega)]

theorem toOrder_k (n : Int) (l : List Int) (hl : l.length ≤ 1048576) (k : Nat) (hk : l.length < k) : laws_toOrder.f k n l = some (n, l) := by
  unfold laws_toOrder.f
  rw [toIntS_k l hl k hk]
  rfl
theorem szOrder_eq (n : Int) (l : List Int) (b : Int) (hb : 0 ≤ b ∧ b ≤ 1048576) (hm : l.length ≤ maxLen) : laws_szOrder.f n l b = some (if (l.length : Int) ≤ b then b - (l.length : Int) else -1) := by
  unfold maxLen at hm
  unfold laws_szOrder.f laws_szIntS.f
  rw [wrap_ok (by omega) (by omega)]
  by_cases h : (l.length : Int) ≤ b
  · rw [if_neg (by omega), if_pos h]
    simp only [Option.bind_some]
    rw [if_neg (by omega)]
  · rw [if_pos (by omega), if_neg h]
    simp

/-- A relation, told as data. -/
def isRel (n : Int) (l : List Int) : Bool := decide (0 ≤ n ∧ n ≤ 10) && decide ((l.length : Int) = n) && allIn l 0 (wrap64 (shl .i64 1 n - 1))
theorem IsRelation_k (n : Int) (l : List Int) (hl : l.length ≤ 4611686018427387904) (k : Nat) (hk : l.length < k) : impl_IsRelation.f k n l = some (isRel n l) := by
  unfold impl_IsRelation.f isRel
  simp only [within_eq, Option.bind_some]
  by_cases h1 : 0 ≤ n ∧ n ≤ 10
  · by_cases h3 : (l.length : Int) = n
    · rw [if_pos h3, if_pos (show 0 ≤ n by omega), allWithin_k l _ _ hl k hk]
      simp [h1, h3]
    · rw [if_neg h3]
      simp [h1, h3]
  · simp [h1]
theorem orRelation_k (n : Int) (l : List Int) (hl : l.length ≤ 4611686018427387904) (k : Nat) (hk : l.length < k) : spec_orRelation.f k n l = some (isRel n l) := by
  unfold spec_orRelation.f isRel
  simp only [l1In_eq, Option.bind_some]
  by_cases h1 : 0 ≤ n ∧ n ≤ 10
  · by_cases h3 : (l.length : Int) = n
    · rw [if_pos h3, if_pos (show 0 ≤ n by omega), l1All_k l _ _ hl k hk]
      simp [h1, h3]
    · rw [if_neg h3]
      simp [h1, h3]
  · simp [h1]
theorem allIn_iff (l : List Int) (a b : Int) : allIn l a b = true ↔ ∀ x ∈ l, a ≤ x ∧ x ≤ b := by
  unfold allIn
  rw [List.all_eq_true]
  simp
theorem ones_eq (c : Nat) (h : c ≤ 60) : wrap64 (shl .i64 1 (c : Int) - 1) = ((2 ^ c - 1 : Nat) : Int) := by
  have hp : 0 < 2 ^ c := Nat.two_pow_pos _
  have hq : 2 ^ c ≤ 2 ^ 60 := Nat.pow_le_pow_right (by omega) h
  rw [shl_one c (by omega), wrap_ok (by omega) (by omega)]
  omega
/-- What a relation is: its size and each element's betters as a number. -/
theorem isRel_iff (n : Int) (l : List Int) : isRel n l = true ↔ ∃ (m : Nat) (ms : List Nat), n = (m : Int) ∧ l = ms.map (fun (x : Nat) => (x : Int)) ∧ m ≤ 10 ∧ ms.length = m ∧ ∀ x ∈ ms, x < 2 ^ m := by
  unfold isRel
  simp only [Bool.and_eq_true, decide_eq_true_eq, allIn_iff]
  constructor
  · rintro ⟨⟨h1, h3⟩, h4⟩
    have ec : n = ((n.toNat : Nat) : Int) := by omega
    have e5 : wrap64 (shl .i64 1 n - 1) = ((2 ^ n.toNat - 1 : Nat) : Int) := by
      rw [ec]
      have := ones_eq n.toNat (by omega)
      have e6 : (((n.toNat : Nat) : Int)).toNat = n.toNat := by omega
      rw [e6]
      exact this
    rw [e5] at h4
    refine ⟨n.toNat, l.map Int.toNat, ec, ?_, by omega, by simp; omega, ?_⟩
    · rw [List.map_map]
      conv => lhs; rw [← List.map_id l]
      apply List.map_congr_left
      intro x hx
      have := h4 x hx
      show x = ((x.toNat : Nat) : Int)
      omega
    · intro x hx
      obtain ⟨y, hy, rfl⟩ := List.mem_map.1 hx
      have := h4 y hy
      have hp : 0 < 2 ^ n.toNat := Nat.two_pow_pos _
      omega
  · rintro ⟨m, ms, rfl, rfl, h1, h2, h3⟩
    have hp : 0 < 2 ^ m := Nat.two_pow_pos _
    refine ⟨⟨by omega, by simp; omega⟩, ?_⟩
    intro x hx
    obtain ⟨y, hy, rfl⟩ := List.mem_map.1 hx
    have := h3 y hy
    rw [ones_eq m (by omega)]
    omega
theorem rd_map (ms : List Nat) (i : Nat) : rd (ms.map (fun (x : Nat) => (x : Int))) (i : Int) = ((ms.getD i 0 : Nat) : Int) := by
  rw [rd_nat]
  simp only [List.getD_eq_getElem?_getD, List.getElem?_map]
  cases ms[i]? <;> simp
theorem getD_lt {ms : List Nat} {b : Nat} (hb : 0 < b) (h : ∀ x ∈ ms, x < b) (i : Nat) : ms.getD i 0 < b := by
  rw [List.getD_eq_getElem?_getD]
  cases hx : ms[i]? with
  | none => simpa using hb
  | some x => exact h x (List.mem_of_getElem? hx)

/-- The bit of a number, as Go asks it. -/
theorem shr_nat (x c : Nat) (hc : c < 64) : shr .i64 (x : Int) (c : Int) = ((x / 2 ^ c : Nat) : Int) := by
  unfold shr
  have e : min (c : Int).toNat IntKind.i64.bits = c := by
    show min (c : Int).toNat 64 = c
    omega
  rw [e]
  simp

theorem bit_and (x c : Nat) (hx : x < 2 ^ 63) (hc : c < 64) : (Go.bits .and .i64 (shr .i64 (x : Int) (c : Int)) 1 == 1) = x.testBit c := by
  rw [shr_nat x c hc]
  have h1 : x / 2 ^ c < 2 ^ 63 := Nat.lt_of_le_of_lt (Nat.div_le_self _ _) hx
  have e : Go.bits .and .i64 ((x / 2 ^ c : Nat) : Int) 1 = ((x / 2 ^ c &&& 1 : Nat) : Int) := and_nat _ 1 h1 (by decide)
  rw [e, Nat.and_one_is_mod]
  have e2 : x.testBit c = decide (x / 2 ^ c % 2 = 1) := Nat.testBit_eq_decide_div_mod_eq
  rw [e2]
  by_cases h : x / 2 ^ c % 2 = 1
  · simp [h]
  · have : x / 2 ^ c % 2 = 0 := by omega
    simp [this]

theorem tmod_nat (n : Nat) : Int.tmod (n : Int) 2 = ((n % 2 : Nat) : Int) := by
  rw [Int.tmod_eq_emod_of_nonneg (by omega)]
  omega
theorem orHas_k (x i : Nat) (hi : i < 64) : spec_orHas.f (x : Int) (i : Int) = some (x.testBit i) := by
  unfold spec_orHas.f
  rw [if_pos (by omega), shr_nat x i hi, tmod_nat]
  have e2 : x.testBit i = decide (x / 2 ^ i % 2 = 1) := Nat.testBit_eq_decide_div_mod_eq
  rw [e2]
  congr 1
  by_cases h : x / 2 ^ i % 2 = 1
  · simp [h]
  · have : x / 2 ^ i % 2 = 0 := by omega
    simp [this]

/-- The elements of a set that are less than m. -/
def elemsTo (x m : Nat) : List Nat := (List.range m).filter x.testBit
theorem elemsTo_succ (x m : Nat) : elemsTo x (m + 1) = elemsTo x m ++ (if x.testBit m = true then [m] else []) := by
  unfold elemsTo
  rw [List.range_succ, List.filter_append]
  by_cases h : x.testBit m = true <;> simp [h]
theorem elemsTo_length (x m : Nat) : (elemsTo x m).length ≤ m := by
  have := List.length_filter_le x.testBit (List.range m)
  simpa [elemsTo] using this
theorem elemsTo_more (x i d : Nat) (h : x < 2 ^ i) : elemsTo x (i + d) = elemsTo x i := by
  induction d with
  | zero => rfl
  | succ d ih =>
    rw [show i + (d + 1) = (i + d) + 1 from rfl, elemsTo_succ, ih]
    have : x.testBit (i + d) = false := Nat.testBit_lt_two_pow (Nat.lt_of_lt_of_le h (Nat.pow_le_pow_right (by omega) (by omega)))
    simp [this]
theorem orList_l0 (x m : Nat) (hx : x < 2 ^ m) (hm : m ≤ 60) : ∀ (d k i : Nat), i + d = m → d < k → spec_orList.l0 k (x : Int) ((elemsTo x i).map (fun (y : Nat) => (y : Int))) (i : Int) = some ((elemsTo x m).map (fun (y : Nat) => (y : Int))) := by
  intro d
  induction d with
  | zero =>
    intro k i hi hk
    obtain ⟨k, rfl⟩ : ∃ q, k = q + 1 := ⟨k - 1, by omega⟩
    have e : i = m := by omega
    subst e
    have h0 : x / 2 ^ i = 0 := Nat.div_eq_of_lt hx
    simp only [spec_orList.l0]
    rw [if_pos (by omega), shr_nat x i (by omega), h0, if_neg (by omega)]
  | succ d ih =>
    intro k i hi hk
    obtain ⟨k, rfl⟩ : ∃ q, k = q + 1 := ⟨k - 1, by omega⟩
    simp only [spec_orList.l0]
    rw [if_pos (by omega), shr_nat x i (by omega)]
    by_cases h0 : x / 2 ^ i = 0
    · rw [h0, if_neg (by omega)]
      have hlt : x < 2 ^ i := by
        have := Nat.div_eq_zero_iff.1 h0
        have hp := Nat.two_pow_pos i
        omega
      have := elemsTo_more x i (d + 1) hlt
      rw [hi] at this
      rw [this]
    · have hl := elemsTo_length x i
      have next := ih k (i + 1) (by omega) (by omega)
      have hpos : ((x / 2 ^ i : Nat) : Int) > 0 := Int.natCast_pos.2 (Nat.pos_of_ne_zero h0)
      rw [if_pos hpos, orHas_k x i (by omega), wrap_ok (by omega) (by omega), show ((i : Int) + 1) = ((i + 1 : Nat) : Int) by omega]
      simp only [Option.bind_some]
      rw [elemsTo_succ] at next
      cases hb : x.testBit i
      · rw [if_neg (by simp)]
        simpa [hb] using next
      · rw [if_pos rfl, if_pos (by simp; omega)]
        simpa [hb] using next
theorem orList_k (x m : Nat) (hx : x < 2 ^ m) (hm : m ≤ 60) (k : Nat) (hk : m < k) : spec_orList.f k (x : Int) = some ((elemsTo x m).map (fun (y : Nat) => (y : Int))) := by
  unfold spec_orList.f
  exact orList_l0 x m hx hm m k 0 (by omega) hk

theorem bit_of_ne {x : Nat} (h : x ≠ 0) : ∃ i, x.testBit i = true := by
  apply Classical.byContradiction
  intro hn
  apply h
  apply Nat.eq_of_testBit_eq
  intro i
  rw [Nat.zero_testBit]
  cases hb : x.testBit i
  · rfl
  · exact absurd ⟨i, hb⟩ hn

theorem elems_mem (x m i : Nat) : (∃ q, q < (elemsTo x m).length ∧ (elemsTo x m).getD q 0 = i) ↔ i < m ∧ x.testBit i = true := by
  have h : i ∈ elemsTo x m ↔ i < m ∧ x.testBit i = true := by
    unfold elemsTo
    rw [List.mem_filter, List.mem_range]
  rw [← h]
  constructor
  · rintro ⟨q, hq, rfl⟩
    rw [List.getD_eq_getElem?_getD, List.getElem?_eq_getElem hq]
    exact List.getElem_mem hq
  · intro hi
    obtain ⟨q, hq, e⟩ := List.getElem_of_mem hi
    refine ⟨q, hq, ?_⟩
    rw [List.getD_eq_getElem?_getD, List.getElem?_eq_getElem hq]
    exact e
theorem elems_lt2 (x m j : Nat) (hj : j < (elemsTo x m).length) : (elemsTo x m).getD j 0 < m := ((elems_mem x m _).1 ⟨j, hj, rfl⟩).1

theorem better_k (N : Int) (l : List Int) (i j x : Nat) (hi : i < l.length) (hx : rd l (i : Int) = (x : Int)) (hx2 : x < 2 ^ 60) (hj : j < 60) : impl_Order_better.f N l (i : Int) (j : Int) = some (x.testBit j) := by
  unfold impl_Order_better.f
  rw [if_pos (by omega), if_pos (by omega), if_pos (by omega), hx, bit_and x j (by omega) (by omega)]

theorem members_all : ∀ x, x < 1024 → impl_members.f 12 ((x : Nat) : Int) = some ((elemsTo x 10).map (fun (y : Nat) => (y : Int))) := by decide +kernel
theorem members_k (x m : Nat) (hx : x < 2 ^ m) (hm : m ≤ 10) (k : Nat) (hk : 12 ≤ k) : impl_members.f k (x : Int) = some ((elemsTo x m).map (fun (y : Nat) => (y : Int))) := by
  have h0 := members_all x (Nat.lt_of_lt_of_le hx (Nat.pow_le_pow_right (n := 2) (by omega) hm))
  have e := elemsTo_more x m (10 - m) hx
  rw [show m + (10 - m) = 10 by omega] at e
  rw [e] at h0
  obtain ⟨d, rfl⟩ : ∃ d, k = 12 + d := ⟨k - 12, by omega⟩
  clear hk
  induction d with
  | zero => exact h0
  | succ d ih => exact impl_members.mono _ _ _ ih

theorem relation_l0 (n : Nat) (hn : n ≤ 60) (is : Int → Int → Option Bool) (p : Nat → Nat → Bool) (h : ∀ i j : Nat, i < n → j < n → is i j = some (p i j)) :
    ∀ (d k i : Nat), i + d = n → d * (n + 3) < k → impl_relation.l0 k (n : Int) is (n : Int) (i : Int) (n : Int) (part n n p i 0) = some ((n : Int), relList n n p) := by
  intro d
  induction d with
  | zero =>
    intro k i hi hk
    obtain ⟨k, rfl⟩ : ∃ m, k = m + 1 := ⟨k - 1, by omega⟩
    simp only [impl_relation.l0]
    have e : i = n := by omega
    subst e
    rw [if_neg (by omega), part_end]
  | succ d ih =>
    intro k i hi hk
    rw [Nat.succ_mul] at hk
    obtain ⟨k, rfl⟩ : ∃ m, k = m + 1 := ⟨k - 1, by omega⟩
    simp only [impl_relation.l0]
    rw [if_pos (by omega)]
    have inner : ∀ (e k j : Nat), j + e = n → d * (n + 3) + 1 + e < k → impl_relation.l1 k (n : Int) is (i : Int) (n : Int) (i : Int) (n : Int) (j : Int) (n : Int) (part n n p i j) = some ((n : Int), relList n n p) := by
      intro e
      induction e with
      | zero =>
        intro k j hj hk
        obtain ⟨k, rfl⟩ : ∃ m, k = m + 1 := ⟨k - 1, by omega⟩
        simp only [impl_relation.l1]
        have e1 : ((i : Int) + 1) = ((i + 1 : Nat) : Int) := by omega
        have e2 : j = n := by omega
        subst e2
        rw [if_neg (by omega), wrap_ok (by omega) (by omega), e1, part_next]
        exact ih k (i + 1) (by omega) (by omega)
      | succ e ihe =>
        intro k j hj hk
        obtain ⟨k, rfl⟩ : ∃ m, k = m + 1 := ⟨k - 1, by omega⟩
        simp only [impl_relation.l1]
        have e1 : ((j : Int) + 1) = ((j + 1 : Nat) : Int) := by omega
        have e3 : (i : Int).toNat = i := by omega
        rw [if_pos (by omega), h i j (by omega) (by omega), wrap_ok (by omega) (by omega), e1, e3]
        simp only [Option.bind_some]
        cases hp : p i j
        · rw [if_neg (by simp), part_skip n n p i j hp]
          exact ihe k (j + 1) (by omega) (by omega)
        · rw [if_pos rfl, if_pos (by omega), if_pos (by rw [part_length]; omega), if_pos (by omega), part_rd n n p i j (by omega), or_shl _ j (Nat.lt_of_lt_of_le (bitsum_lt (p i) j) (Nat.pow_le_pow_right (by omega) (by omega))) (by omega), part_set n n p i j (by omega) hp]
          exact ihe k (j + 1) (by omega) (by omega)
    exact inner n k 0 (by omega) (by omega)
/-- The relation of what is told of each pair. -/
theorem relation_k (n : Nat) (hn : n ≤ 60) (is : Int → Int → Option Bool) (p : Nat → Nat → Bool) (h : ∀ i j : Nat, i < n → j < n → is i j = some (p i j)) (k : Nat) (hk : n * (n + 3) < k) :
    impl_relation.f k (n : Int) is = some ((n : Int), relList n n p) := by
  unfold impl_relation.f
  rw [if_pos (by omega), if_pos (by omega)]
  have e : ((n : Int)).toNat = n := by omega
  rw [e, part_start n n p]
  exact relation_l0 n hn is p h n k 0 (by omega) hk

/-- Is a row that of an order: the element isn't better than itself, and what is better than its betters is among them. -/
def ordRow (n : Nat) (ms : List Nat) (i : Nat) : Bool := !(ms.getD i 0).testBit i && (List.range' 0 (elemsTo (ms.getD i 0) n).length).all fun q => decide (andn (ms.getD ((elemsTo (ms.getD i 0) n).getD q 0) 0) (ms.getD i 0) = 0)
theorem impl_IsOrder_l0 (n : Nat) (hn : n ≤ 10) (ms : List Nat) (hl : ms.length = n) (hb : ∀ x ∈ ms, x < 2 ^ n) : ∀ (d k i : Nat), i + d = n → d * 14 + 20 < k →
    impl_IsOrder.l0 k (ms.map (fun (x : Nat) => (x : Int))) (n : Int) (i : Int) (n : Int) (ms.map (fun (x : Nat) => (x : Int))) = some ((List.range' i d).all (ordRow n ms)) := by
  intro d
  have h2 : 2 ^ n ≤ 2 ^ 10 := Nat.pow_le_pow_right (by omega) hn
  have lm : ((ms.map (fun (x : Nat) => (x : Int))).length : Int) = (n : Int) := by simp [hl]
  have lm2 : (ms.map (fun (x : Nat) => (x : Int))).length = n := by simp [hl]
  induction d with
  | zero =>
    intro k i hi hk
    obtain ⟨k, rfl⟩ : ∃ m, k = m + 1 := ⟨k - 1, by omega⟩
    simp only [impl_IsOrder.l0]
    rw [if_neg (by omega)]
    rfl
  | succ d ih =>
    intro k i hi hk
    obtain ⟨k, rfl⟩ : ∃ m, k = m + 1 := ⟨k - 1, by omega⟩
    simp only [impl_IsOrder.l0]
    have a1 := getD_lt (Nat.two_pow_pos n) hb i
    have r1 := rd_map ms i
    have hle := elemsTo_length (ms.getD i 0) n
    rw [if_pos (by omega), if_pos (by omega), if_pos (by omega), better_k (n : Int) _ i i _ (by omega) r1 (by omega) (by omega), r1, members_k _ n a1 hn k (by omega)]
    simp only [Option.bind_some]
    rw [List.range'_succ, List.all_cons]
    cases h1 : (ms.getD i 0).testBit i
    · rw [if_neg (by simp)]
      have inner : ∀ (e k q : Nat), q + e = (elemsTo (ms.getD i 0) n).length → d * 14 + 21 + e < k →
          impl_IsOrder.l1 k ((ms.getD i 0 : Nat) : Int) (ms.map (fun (x : Nat) => (x : Int))) (n : Int) (i : Int) ((elemsTo (ms.getD i 0) n).map (fun (x : Nat) => (x : Int))) ((elemsTo (ms.getD i 0) n).length : Int) (q : Int) (n : Int) (ms.map (fun (x : Nat) => (x : Int))) = some (((List.range' q e).all fun q => decide (andn (ms.getD ((elemsTo (ms.getD i 0) n).getD q 0) 0) (ms.getD i 0) = 0)) && (List.range' (i + 1) d).all (ordRow n ms)) := by
        intro e
        induction e with
        | zero =>
          intro k q hq hk
          obtain ⟨k, rfl⟩ : ∃ m, k = m + 1 := ⟨k - 1, by omega⟩
          simp only [impl_IsOrder.l1]
          rw [if_neg (by omega), wrap_ok (by omega) (by omega), show ((i : Int) + 1) = ((i + 1 : Nat) : Int) by omega, ih k (i + 1) (by omega) (by omega)]
          simp
        | succ e ihe =>
          intro k q hq hk
          obtain ⟨k, rfl⟩ : ∃ m, k = m + 1 := ⟨k - 1, by omega⟩
          simp only [impl_IsOrder.l1]
          have lL : (((elemsTo (ms.getD i 0) n).map (fun (x : Nat) => (x : Int))).length : Int) = ((elemsTo (ms.getD i 0) n).length : Int) := by simp
          have hj := elems_lt2 (ms.getD i 0) n q (by omega)
          have a2 := getD_lt (Nat.two_pow_pos n) hb ((elemsTo (ms.getD i 0) n).getD q 0)
          rw [if_pos (by omega), if_pos (by omega), if_pos (by omega), rd_map, if_pos (Int.natCast_nonneg _), lm, if_pos (Int.ofNat_lt.2 hj), rd_map, andNot_nat _ _ (by omega) (by omega), wrap_ok (by omega) (by omega), show ((q : Int) + 1) = ((q + 1 : Nat) : Int) by omega, ihe k (q + 1) (by omega) (by omega), List.range'_succ, List.all_cons]
          by_cases h : andn (ms.getD ((elemsTo (ms.getD i 0) n).getD q 0) 0) (ms.getD i 0) = 0
          · rw [if_pos (by rw [h]; rfl), decide_eq_true h, Bool.true_and]
          · rw [if_neg (by intro e; exact h (Int.ofNat_eq_zero.1 e)), decide_eq_false h, Bool.false_and, Bool.false_and]
      have := inner (elemsTo (ms.getD i 0) n).length k 0 (by omega) (by omega)
      have lL : (((elemsTo (ms.getD i 0) n).map (fun (x : Nat) => (x : Int))).length : Int) = ((elemsTo (ms.getD i 0) n).length : Int) := by simp
      rw [lL]
      have er : ordRow n ms i = (List.range' 0 (elemsTo (ms.getD i 0) n).length).all fun q => decide (andn (ms.getD ((elemsTo (ms.getD i 0) n).getD q 0) 0) (ms.getD i 0) = 0) := by
        unfold ordRow
        rw [h1]
        rfl
      rw [er]
      exact this
    · rw [if_pos rfl]
      have er : ordRow n ms i = false := by
        unfold ordRow
        rw [h1]
        rfl
      rw [er]
      rfl
theorem spec_orGood_l0 (n : Nat) (hn : n ≤ 10) (ms : List Nat) (hl : ms.length = n) (hb : ∀ x ∈ ms, x < 2 ^ n) : ∀ (d k i : Nat), i + d = n → d * 14 + 20 < k →
    spec_orGood.l0 k (ms.map (fun (x : Nat) => (x : Int))) (n : Int) (i : Int) (n : Int) (ms.map (fun (x : Nat) => (x : Int))) = some ((List.range' i d).all (ordRow n ms)) := by
  intro d
  have h2 : 2 ^ n ≤ 2 ^ 10 := Nat.pow_le_pow_right (by omega) hn
  have lm : ((ms.map (fun (x : Nat) => (x : Int))).length : Int) = (n : Int) := by simp [hl]
  have lm2 : (ms.map (fun (x : Nat) => (x : Int))).length = n := by simp [hl]
  induction d with
  | zero =>
    intro k i hi hk
    obtain ⟨k, rfl⟩ : ∃ m, k = m + 1 := ⟨k - 1, by omega⟩
    simp only [spec_orGood.l0]
    rw [if_neg (by omega)]
    rfl
  | succ d ih =>
    intro k i hi hk
    obtain ⟨k, rfl⟩ : ∃ m, k = m + 1 := ⟨k - 1, by omega⟩
    simp only [spec_orGood.l0]
    have a1 := getD_lt (Nat.two_pow_pos n) hb i
    have r1 := rd_map ms i
    have hle := elemsTo_length (ms.getD i 0) n
    rw [if_pos (by omega), if_pos (by omega), if_pos (by omega), r1, orHas_k _ i (by omega), orList_k _ n a1 (by omega) k (by omega)]
    simp only [Option.bind_some]
    rw [List.range'_succ, List.all_cons]
    cases h1 : (ms.getD i 0).testBit i
    · rw [if_neg (by simp)]
      have inner : ∀ (e k q : Nat), q + e = (elemsTo (ms.getD i 0) n).length → d * 14 + 21 + e < k →
          spec_orGood.l1 k ((ms.getD i 0 : Nat) : Int) (ms.map (fun (x : Nat) => (x : Int))) (n : Int) (i : Int) ((elemsTo (ms.getD i 0) n).map (fun (x : Nat) => (x : Int))) ((elemsTo (ms.getD i 0) n).length : Int) (q : Int) (n : Int) (ms.map (fun (x : Nat) => (x : Int))) = some (((List.range' q e).all fun q => decide (andn (ms.getD ((elemsTo (ms.getD i 0) n).getD q 0) 0) (ms.getD i 0) = 0)) && (List.range' (i + 1) d).all (ordRow n ms)) := by
        intro e
        induction e with
        | zero =>
          intro k q hq hk
          obtain ⟨k, rfl⟩ : ∃ m, k = m + 1 := ⟨k - 1, by omega⟩
          simp only [spec_orGood.l1]
          rw [if_neg (by omega), wrap_ok (by omega) (by omega), show ((i : Int) + 1) = ((i + 1 : Nat) : Int) by omega, ih k (i + 1) (by omega) (by omega)]
          simp
        | succ e ihe =>
          intro k q hq hk
          obtain ⟨k, rfl⟩ : ∃ m, k = m + 1 := ⟨k - 1, by omega⟩
          simp only [spec_orGood.l1]
          have lL : (((elemsTo (ms.getD i 0) n).map (fun (x : Nat) => (x : Int))).length : Int) = ((elemsTo (ms.getD i 0) n).length : Int) := by simp
          have hj := elems_lt2 (ms.getD i 0) n q (by omega)
          have a2 := getD_lt (Nat.two_pow_pos n) hb ((elemsTo (ms.getD i 0) n).getD q 0)
          rw [if_pos (by omega), if_pos (by omega), if_pos (by omega), rd_map, if_pos (Int.natCast_nonneg _), lm, if_pos (Int.ofNat_lt.2 hj), rd_map, andNot_nat _ _ (by omega) (by omega), wrap_ok (by omega) (by omega), show ((q : Int) + 1) = ((q + 1 : Nat) : Int) by omega, ihe k (q + 1) (by omega) (by omega), List.range'_succ, List.all_cons]
          by_cases h : andn (ms.getD ((elemsTo (ms.getD i 0) n).getD q 0) 0) (ms.getD i 0) = 0
          · rw [if_pos (by rw [h]; rfl), decide_eq_true h, Bool.true_and]
          · rw [if_neg (by intro e; exact h (Int.ofNat_eq_zero.1 e)), decide_eq_false h, Bool.false_and, Bool.false_and]
      have := inner (elemsTo (ms.getD i 0) n).length k 0 (by omega) (by omega)
      have lL : (((elemsTo (ms.getD i 0) n).map (fun (x : Nat) => (x : Int))).length : Int) = ((elemsTo (ms.getD i 0) n).length : Int) := by simp
      rw [lL]
      have er : ordRow n ms i = (List.range' 0 (elemsTo (ms.getD i 0) n).length).all fun q => decide (andn (ms.getD ((elemsTo (ms.getD i 0) n).getD q 0) 0) (ms.getD i 0) = 0) := by
        unfold ordRow
        rw [h1]
        rfl
      rw [er]
      exact this
    · rw [if_pos rfl]
      have er : ordRow n ms i = false := by
        unfold ordRow
        rw [h1]
        rfl
      rw [er]
      rfl
/-- What both tell of an order. -/
theorem order_both (n : Int) (l : List Int) (hl : l.length ≤ 1048576) : ∃ b, (∀ k, l.length + 300 < k → impl_IsOrder.f k n l = some b ∧ spec_orGood.f k n l = some b) ∧
    (b = true → ∃ (m : Nat) (ms : List Nat), n = (m : Int) ∧ l = ms.map (fun (x : Nat) => (x : Int)) ∧ m ≤ 10 ∧ ms.length = m ∧ (∀ x ∈ ms, x < 2 ^ m) ∧ (List.range' 0 m).all (ordRow m ms) = true) := by
  cases hT : isRel n l
  · refine ⟨false, fun k hk => ⟨?_, ?_⟩, by simp⟩
    · unfold impl_IsOrder.f
      rw [IsRelation_k n l (by omega) k (by omega), hT]
      rfl
    · unfold spec_orGood.f
      rw [orRelation_k n l (by omega) k (by omega), hT]
      rfl
  · obtain ⟨m, ms, rfl, rfl, h1, h2, h3⟩ := (isRel_iff n l).1 hT
    have lm : ((ms.map (fun (x : Nat) => (x : Int))).length : Int) = (m : Int) := by simp [h2]
    refine ⟨(List.range' 0 m).all (ordRow m ms), fun k hk => ⟨?_, ?_⟩, fun hb => ⟨m, ms, rfl, rfl, h1, h2, h3, hb⟩⟩
    · unfold impl_IsOrder.f
      rw [IsRelation_k _ _ (by omega) k (by omega), hT, lm]
      exact impl_IsOrder_l0 m h1 ms h2 h3 m k 0 (by omega) (by omega)
    · unfold spec_orGood.f
      rw [orRelation_k _ _ (by omega) k (by omega), hT, lm]
      exact spec_orGood_l0 m h1 ms h2 h3 m k 0 (by omega) (by omega)

/-- What an order is, said of its rows. -/
theorem order_rows (m : Nat) (ms : List Nat) (h2 : ms.length = m) (h3 : ∀ x ∈ ms, x < 2 ^ m) (ho : (List.range' 0 m).all (ordRow m ms) = true) : (∀ i, (ms.getD i 0).testBit i = false) ∧ ∀ i j, (ms.getD i 0).testBit j = true → ∀ q, (ms.getD j 0).testBit q = true → (ms.getD i 0).testBit q = true := by
  have out : ∀ i, m ≤ i → ms.getD i 0 = 0 := fun i hi => by
    rw [List.getD_eq_getElem?_getD, List.getElem?_eq_none (by omega)]
    rfl
  have row : ∀ i, i < m → ordRow m ms i = true := fun i hi => List.all_eq_true.1 ho i (by rw [List.mem_range']; exact ⟨i, hi, by omega⟩)
  constructor
  · intro i
    by_cases hi : i < m
    · have := row i hi
      unfold ordRow at this
      rw [Bool.and_eq_true] at this
      simpa using this.1
    · rw [out i (by omega)]
      simp
  · intro i j hj q hq
    by_cases hi : i < m
    · have := row i hi
      unfold ordRow at this
      rw [Bool.and_eq_true, List.all_eq_true] at this
      have hjm : j < m := by
        by_cases h : j < m
        · exact h
        · rw [out j (by omega)] at hq
          simp at hq
      obtain ⟨t, ht1, ht2⟩ := (elems_mem (ms.getD i 0) m j).2 ⟨hjm, hj⟩
      have h4 := this.2 t (by rw [List.mem_range']; exact ⟨t, ht1, by omega⟩)
      rw [decide_eq_true_eq, ht2, andn_zero] at h4
      exact h4 q hq
    · rw [out i (by omega)] at hj
      simp at hj

theorem l1Own_some (l : List Int) (h : l.length ≤ 1048576) : spec_l1Own.f l = some l := by
  unfold spec_l1Own.f
  simp only [Option.bind_some, List.nil_append, List.length_nil]
  rw [if_pos (by omega)]

/-! A loop that looks for the first index for which something is told: what it tells with enough rounds. -/
/-- One round of such a loop: what is told ends it; else it goes on. -/
def Step {α : Type} (F : Nat → Nat → Option α) (G : Nat → Option α) (c i : Nat) : Prop :=
  (∀ v, G i = some v → ∀ k, c ≤ k → F (k + 1) i = some v) ∧ (G i = none → ∀ K r, (∀ k, K ≤ k → F k (i + 1) = some r) → ∀ k, K + c ≤ k → F (k + 1) i = some r)
theorem search {α : Type} (F : Nat → Nat → Option α) (n c : Nat) (G : Nat → Option α) (h : ∀ i, i < n → Step F G c i) :
    ∀ e i, i + e = n → (∀ v, (List.range' i e).findSome? G = some v → ∀ k, e * (c + 1) ≤ k → F k i = some v) ∧
      ((List.range' i e).findSome? G = none → ∀ K r, (∀ k, K ≤ k → F k n = some r) → ∀ k, K + e * (c + 1) ≤ k → F k i = some r) := by
  intro e
  induction e with
  | zero =>
    intro i hi
    have e0 : i = n := by omega
    subst e0
    exact ⟨fun v h => by simp at h, fun _ K r h k hk => h k (by omega)⟩
  | succ e ih =>
    intro i hi
    obtain ⟨ihA, ihB⟩ := ih (i + 1) (by omega)
    obtain ⟨hb, hs⟩ := h i (by omega)
    rw [List.range'_succ, List.findSome?_cons]
    refine ⟨fun v h k hk => ?_, fun h K r hr k hk => ?_⟩
    · rw [Nat.succ_mul] at hk
      obtain ⟨k, rfl⟩ : ∃ m, k = m + 1 := ⟨k - 1, by omega⟩
      cases hG : G i with
      | some w =>
        rw [hG] at h
        exact hb v (by rw [hG]; exact h) k (by omega)
      | none =>
        rw [hG] at h
        exact hs hG (e * (c + 1)) v (fun k hk => ihA v h k hk) k (by omega)
    · rw [Nat.succ_mul] at hk
      obtain ⟨k, rfl⟩ : ∃ m, k = m + 1 := ⟨k - 1, by omega⟩
      cases hG : G i with
      | some w =>
        rw [hG] at h
        cases h
      | none =>
        rw [hG] at h
        exact hs hG (K + e * (c + 1)) r (fun k hk => ihB h K r hr k hk) k (by omega)
/-- A loop within a loop: the outer one's round is the inner one from its start; at its end it goes on. -/
theorem search2 {α : Type} {F I : Nat → Nat → Option α} {m c : Nat} {G : Nat → Option α} {GO : Nat → Option α} {i : Nat} (b : Nat)
    (h : ∀ j, j < m → Step I G c j) (hG : GO i = (List.range' 0 m).findSome? G) (hin : ∀ k, b ≤ k → F (k + 1) i = I k 0) (hout : ∀ k, I (k + 1) m = F k (i + 1)) : Step F GO (b + m * (c + 1) + 1) i := by
  obtain ⟨hA, hB⟩ := search I m c G h m 0 (by omega)
  unfold Step
  rw [hG]
  refine ⟨fun v h k hk => ?_, fun h K r hr k hk => ?_⟩
  · rw [hin k (by omega)]
    exact hA v h k (by omega)
  · rw [hin k (by omega)]
    refine hB h (K + 1) r (fun k hk => ?_) k (by omega)
    obtain ⟨k, rfl⟩ : ∃ q, k = q + 1 := ⟨k - 1, by omega⟩
    rw [hout]
    exact hr k (by omega)
/-- A whole search: the first that is told, or what stands at the end. -/
theorem search0 {α : Type} {F : Nat → Nat → Option α} {n c : Nat} {G : Nat → Option α} (h : ∀ i, i < n → Step F G c i) (z : α) (hz : ∀ k, F (k + 1) n = some z) (k : Nat) (hk : n * (c + 1) + 1 ≤ k) :
    F k 0 = some (((List.range' 0 n).findSome? G).getD z) := by
  obtain ⟨hA, hB⟩ := search F n c G h n 0 (by omega)
  cases h0 : (List.range' 0 n).findSome? G with
  | some v => exact hA v h0 k (by omega)
  | none =>
    refine hB h0 1 z (fun k hk => ?_) k (by omega)
    obtain ⟨k, rfl⟩ : ∃ q, k = q + 1 := ⟨k - 1, by omega⟩
    exact hz k
theorem nat_succ (i : Nat) : ((i : Int) + 1) = ((i + 1 : Nat) : Int) := by omega
theorem fs_none {α : Type} (n : Nat) (G : Nat → Option α) : (List.range' 0 n).findSome? G = none ↔ ∀ i, i < n → G i = none := by
  rw [List.findSome?_eq_none_iff]
  constructor
  · intro h i hi
    exact h i (by rw [List.mem_range']; exact ⟨i, hi, by omega⟩)
  · intro h x hx
    rw [List.mem_range'] at hx
    obtain ⟨i, hi, e⟩ := hx
    exact h x (by omega)
theorem fs_some {α : Type} (n : Nat) (G : Nat → Option α) (v : α) (h : (List.range' 0 n).findSome? G = some v) : ∃ i, i < n ∧ G i = some v := by
  obtain ⟨x, hx, hv⟩ := List.exists_of_findSome?_eq_some h
  rw [List.mem_range'] at hx
  obtain ⟨i, hi, e⟩ := hx
  exact ⟨x, by omega, hv⟩

/-! Kinds of orders: what the program's and the reference's tests tell of a relation. -/
abbrev aI (ms : List Nat) : List Int := ms.map (fun (x : Nat) => (x : Int))
abbrev tb (ms : List Nat) (i j : Nat) : Bool := (ms.getD i 0).testBit j
/-- Neither is better, and they are two. -/
def nearN (m : Nat) (ms : List Nat) (i : Nat) : Nat := bitsum (fun j => !tb ms i j && !tb ms j i && decide (j ≠ i)) m
theorem nearN_lt (m : Nat) (ms : List Nat) (i : Nat) : nearN m ms i < 2 ^ m := bitsum_lt _ _
theorem nearN_bit (m : Nat) (ms : List Nat) (i j : Nat) : (nearN m ms i).testBit j = (decide (j < m) && (!tb ms i j && !tb ms j i && decide (j ≠ i))) := bitsum_bit _ _ _
theorem nsucc (i : Nat) : ((i : Int) + 1) = ((i + 1 : Nat) : Int) := by omega
theorem Step.up {α : Type} {F : Nat → Nat → Option α} {G : Nat → Option α} {c c' i : Nat} (h : Step F G c i) (hc : c ≤ c') : Step F G c' i :=
  ⟨fun v hv k hk => h.1 v hv k (by omega), fun hn K r hr k hk => h.2 hn K r hr k (by omega)⟩
theorem orBelow_l0 (m : Nat) (hm : m ≤ 10) (ms : List Nat) (hl : ms.length = m) (i : Nat) (hi : i < 60) : ∀ (d k j : Nat), j + d = m → d < k →
    spec_orBelow.l0 k (i : Int) ((bitsum (fun j => tb ms j i) j : Nat) : Int) (aI ms) (m : Int) (j : Int) = some ((bitsum (fun j => tb ms j i) m : Nat) : Int) := by
  intro d
  have lm : ((aI ms).length : Int) = (m : Int) := by simp [hl]
  induction d with
  | zero =>
    intro k j hj hk
    obtain ⟨k, rfl⟩ : ∃ q, k = q + 1 := ⟨k - 1, by omega⟩
    have : j = m := by omega
    subst this
    rw [spec_orBelow.l0, if_neg (by omega)]
  | succ d ih =>
    intro k j hj hk
    obtain ⟨k, rfl⟩ : ∃ q, k = q + 1 := ⟨k - 1, by omega⟩
    have hq := ih k (j + 1) (by omega) (by omega)
    rw [bitsum] at hq
    have hlt := bitsum_lt (fun j => tb ms j i) j
    have h10 : 2 ^ j ≤ 2 ^ 10 := Nat.pow_le_pow_right (by omega) (by omega)
    rw [spec_orBelow.l0, if_pos (by omega), if_pos (by omega), if_pos (by omega), rd_map, orHas_k _ i (by omega)]
    simp only [Option.bind_some]
    cases h : (ms.getD j 0).testBit i
    · simp only [tb, h, Bool.false_eq_true, if_false, Nat.or_zero] at hq
      rw [if_neg (by simp), wrap_ok (by omega) (by omega), nsucc]
      exact hq
    · simp only [tb, h, if_true] at hq
      rw [if_pos rfl, or_shl _ j (by omega) (by omega), wrap_ok (by omega) (by omega), nsucc]
      exact hq
theorem near_eq (m : Nat) (ms : List Nat) (i : Nat) : andn (2 ^ m - 1) (ms.getD i 0 ||| bitsum (fun j => tb ms j i) m ||| 2 ^ i) = nearN m ms i := by
  apply Nat.eq_of_testBit_eq
  intro j
  rw [andn_bit, nearN_bit, Nat.testBit_or, Nat.testBit_or, bitsum_bit, Nat.testBit_two_pow_sub_one, Nat.testBit_two_pow]
  by_cases hj : j < m
  · by_cases e : i = j
    · subst e; simp
    · have e' : j ≠ i := fun h => e h.symm
      simp only [hj, e, e', decide_true, decide_false, Bool.true_and, Bool.or_false, ne_eq, not_false_eq_true, Bool.and_true, tb]
      cases (ms.getD i 0).testBit j <;> cases (ms.getD j 0).testBit i <;> rfl
  · simp [hj]
theorem orFree_k (m : Nat) (hm : m ≤ 10) (ms : List Nat) (hl : ms.length = m) (hb : ∀ x ∈ ms, x < 2 ^ m) (i : Nat) (hi : i < m) (k : Nat) (hk : m + 2 < k) : spec_orFree.f k (m : Int) (aI ms) (i : Int) = some ((nearN m ms i : Nat) : Int) := by
  have lm : ((aI ms).length : Int) = (m : Int) := by simp [hl]
  have h10 : 2 ^ m ≤ 2 ^ 10 := Nat.pow_le_pow_right (by omega) hm
  have a1 := getD_lt (Nat.two_pow_pos m) hb i
  have a2 := bitsum_lt (fun j => tb ms j i) m
  have e : spec_orBelow.f k (m : Int) (aI ms) (i : Int) = some ((bitsum (fun j => tb ms j i) m : Nat) : Int) := by
    unfold spec_orBelow.f
    rw [lm]
    exact orBelow_l0 m hm ms hl i (by omega) m k 0 (by omega) (by omega)
  have hor : ms.getD i 0 ||| bitsum (fun j => tb ms j i) m < 2 ^ 10 := Nat.or_lt_two_pow (by omega) (by omega)
  have hor2 : ms.getD i 0 ||| bitsum (fun j => tb ms j i) m ||| 2 ^ i < 2 ^ 10 := Nat.or_lt_two_pow hor (Nat.pow_lt_pow_right (by omega) (by omega))
  unfold spec_orFree.f
  rw [if_pos (by omega), if_pos (by omega), if_pos (by rw [lm]; omega), e]
  simp only [Option.bind_some]
  rw [rd_map, or_nat _ _ (by omega) (by omega), or_shl _ i (by omega) (by omega), ones_eq m (by omega), andNot_nat _ _ (by omega) (by omega), near_eq]
theorem relList_rd (R C : Nat) (p : Nat → Nat → Bool) (i : Nat) (hi : i < R) : rd (relList R C p) (i : Int) = ((bitsum (p i) C : Nat) : Int) := by
  unfold relList rd
  simp [List.getD_eq_getElem?_getD, hi]
theorem near_eq2 (m : Nat) (ms : List Nat) (i : Nat) : andn (andn (andn (2 ^ m - 1) (ms.getD i 0)) (bitsum (fun j => tb ms j i) m)) (2 ^ i) = nearN m ms i := by
  rw [← near_eq]
  apply Nat.eq_of_testBit_eq
  intro j
  rw [andn_bit, andn_bit, andn_bit, andn_bit, Nat.testBit_or, Nat.testBit_or]
  cases (2 ^ m - 1).testBit j <;> cases (ms.getD i 0).testBit j <;> cases (bitsum (fun j => tb ms j i) m).testBit j <;> cases (2 ^ i).testBit j <;> rfl
theorem indiff_l0 (m : Nat) (hm : m ≤ 10) (ms : List Nat) (hl : ms.length = m) (hb : ∀ x ∈ ms, x < 2 ^ m) : ∀ (d k j : Nat), j + d = m → d < k →
    impl_Order_indifferent.l0 k ((List.range j).map fun i => ((nearN m ms i : Nat) : Int)) (m : Int) (j : Int) (m : Int) (aI ms) (m : Int) (relList m m fun i j => tb ms j i) = some ((List.range m).map fun i => ((nearN m ms i : Nat) : Int)) := by
  intro d
  have lm : ((aI ms).length : Int) = (m : Int) := by simp [hl]
  have lr : ((relList m m fun i j => tb ms j i).length : Int) = (m : Int) := by rw [relList_length]
  have h10 : 2 ^ m ≤ 2 ^ 10 := Nat.pow_le_pow_right (by omega) hm
  induction d with
  | zero =>
    intro k j hj hk
    obtain ⟨k, rfl⟩ : ∃ q, k = q + 1 := ⟨k - 1, by omega⟩
    have : j = m := by omega
    subst this
    rw [impl_Order_indifferent.l0, if_neg (by omega)]
  | succ d ih =>
    intro k j hj hk
    obtain ⟨k, rfl⟩ : ∃ q, k = q + 1 := ⟨k - 1, by omega⟩
    have hq := ih k (j + 1) (by omega) (by omega)
    have a1 := getD_lt (Nat.two_pow_pos m) hb j
    have a2 := bitsum_lt (fun i => tb ms i j) m
    have a3 := andn_le (2 ^ m - 1) (ms.getD j 0)
    have a4 := andn_le (andn (2 ^ m - 1) (ms.getD j 0)) (bitsum (fun i => tb ms i j) m)
    have a5 : 2 ^ j < 2 ^ 10 := Nat.pow_lt_pow_right (by omega) (by omega)
    rw [impl_Order_indifferent.l0, if_pos (by omega)]
    unfold impl_Order_all.f
    rw [if_pos (by omega)]
    simp only [Option.bind_some]
    rw [if_pos (by omega), if_pos (by rw [lm]; omega), if_pos (by rw [lr]; omega), if_pos (by rw [List.length_map, List.length_range]; omega), rd_map, relList_rd _ _ _ _ (by omega), ones_eq m (by omega), andNot_nat _ _ (by omega) (by omega), andNot_nat _ _ (by omega) (by omega), shl_one j (by omega), andNot_nat _ _ (by omega) (by omega), near_eq2, wrap_ok (by omega) (by omega), nsucc]
    rw [List.range_succ, List.map_append] at hq
    exact hq
theorem indiff_k (m : Nat) (hm : m ≤ 10) (ms : List Nat) (hl : ms.length = m) (hb : ∀ x ∈ ms, x < 2 ^ m) (k : Nat) (hk : 140 < k) : impl_Order_indifferent.f k (m : Int) (aI ms) = some ((List.range m).map fun i => ((nearN m ms i : Nat) : Int)) := by
  have h10 : 2 ^ m ≤ 2 ^ 10 := Nat.pow_le_pow_right (by omega) hm
  have hmm : m * (m + 3) ≤ 10 * 13 := Nat.mul_le_mul hm (by omega)
  have e : impl_Order_mirror.f k (m : Int) (aI ms) = some ((m : Int), relList m m fun i j => tb ms j i) := by
    unfold impl_Order_mirror.f
    rw [relation_k m (by omega) _ (fun i j => tb ms j i) (fun i j hi hj => by
      unfold impl_Order_mirror_1.f
      have a1 := getD_lt (Nat.two_pow_pos m) hb j
      rw [better_k (m : Int) (aI ms) j i _ (by simp; omega) (rd_map ms j) (by omega) (by omega)]
      rfl) k (by omega)]
    rfl
  unfold impl_Order_indifferent.f
  rw [e]
  exact indiff_l0 m hm ms hl hb m k 0 (by omega) (by omega)

set_option linter.unusedSectionVars false
/-! The searches for two and one, three and one, two and two. -/
theorem near_rd (m : Nat) (ms : List Nat) (i : Nat) (hi : i < m) : rd ((List.range m).map fun i => ((nearN m ms i : Nat) : Int)) (i : Int) = ((nearN m ms i : Nat) : Int) := by
  rw [rd_nat]
  simp [List.getD_eq_getElem?_getD, hi]
theorem and_lt {a b m : Nat} (h : a < 2 ^ m) : a &&& b < 2 ^ m := Nat.lt_of_le_of_lt Nat.and_le_left h
theorem elems_none (x m : Nat) (hx : x < 2 ^ m) : (elemsTo x m).length = 0 ↔ x = 0 := by
  constructor
  · intro h
    by_cases e : x = 0
    · exact e
    · obtain ⟨i, hi⟩ := bit_of_ne e
      have hm : i < m := by
        by_cases h' : i < m
        · exact h'
        · exact absurd hi (by rw [Nat.testBit_lt_two_pow (Nat.lt_of_lt_of_le hx (Nat.pow_le_pow_right (by omega) (by omega)))]; simp)
      obtain ⟨q, h1, _⟩ := (elems_mem x m i).2 ⟨hm, hi⟩
      omega
  · rintro rfl
    simp [elemsTo]
/-- The b-th of those better than a: with what is beside both. -/
def two1 (m : Nat) (ms : List Nat) (a q : Nat) : Option Nat := if nearN m ms a &&& nearN m ms ((elemsTo (ms.getD a 0) m).getD q 0) = 0 then none else some ((elemsTo (ms.getD a 0) m).getD q 0)
def two0 (m : Nat) (ms : List Nat) (a : Nat) : Option Nat := (List.range' 0 (elemsTo (ms.getD a 0) m).length).findSome? (two1 m ms a)
def HasTwo (m : Nat) (ms : List Nat) : Prop := ∃ a b, a < m ∧ b < m ∧ tb ms a b = true ∧ nearN m ms a &&& nearN m ms b ≠ 0
def two1L (m : Nat) (ms : List Nat) (a q : Nat) : Option (List Int) := (two1 m ms a q).map fun (b : Nat) => [(a : Int), (b : Int), (((elemsTo (nearN m ms a &&& nearN m ms b) m).getD 0 0 : Nat) : Int)]
def two0L (m : Nat) (ms : List Nat) (a : Nat) : Option (List Int) := (List.range' 0 (elemsTo (ms.getD a 0) m).length).findSome? (two1L m ms a)
def two1P (m : Nat) (ms : List Nat) (a q : Nat) : Option (List Int × Bool) := (two1L m ms a q).map fun l => (l, true)
def two0P (m : Nat) (ms : List Nat) (a : Nat) : Option (List Int × Bool) := (List.range' 0 (elemsTo (ms.getD a 0) m).length).findSome? (two1P m ms a)
theorem two1_none (m : Nat) (ms : List Nat) (a q : Nat) : two1L m ms a q = none ↔ nearN m ms a &&& nearN m ms ((elemsTo (ms.getD a 0) m).getD q 0) = 0 := by
  unfold two1L two1
  split <;> simp_all
theorem two0_none (m : Nat) (ms : List Nat) : (List.range' 0 m).findSome? (two0L m ms) = none ↔ ¬ HasTwo m ms := by
  rw [fs_none]
  constructor
  · rintro h ⟨a, b, ha, hb, hab, hn⟩
    obtain ⟨q, hq, e⟩ := (elems_mem (ms.getD a 0) m b).2 ⟨hb, hab⟩
    have := (fs_none _ _).1 (h a ha) q hq
    rw [two1_none, e] at this
    exact hn this
  · intro h a ha
    unfold two0L
    rw [fs_none]
    intro q hq
    rw [two1_none]
    by_cases e : nearN m ms a &&& nearN m ms ((elemsTo (ms.getD a 0) m).getD q 0) = 0
    · exact e
    · obtain ⟨h1, h2⟩ := (elems_mem (ms.getD a 0) m _).1 ⟨q, hq, rfl⟩
      exact absurd ⟨a, _, ha, h1, h2, e⟩ h
theorem fs_map {α β : Type} (f : α → β) (G : Nat → Option α) : ∀ (l : List Nat), l.findSome? (fun i => (G i).map f) = (l.findSome? G).map f
  | [] => rfl
  | x :: l => by
    rw [List.findSome?_cons, List.findSome?_cons]
    cases h : G x
    · simpa using fs_map f G l
    · rfl
theorem two0P_eq (m : Nat) (ms : List Nat) : two0P m ms = fun a => (two0L m ms a).map fun l => (l, true) := by
  funext a
  exact fs_map _ _ _
section
variable (m : Nat) (hm : m ≤ 10) (ms : List Nat) (hl : ms.length = m) (hb : ∀ x ∈ ms, x < 2 ^ m)
include hm hl hb
theorem impl_two_l1 (a : Nat) (ha : a < m) (q : Nat) (hq : q < (elemsTo (ms.getD a 0) m).length) :
    Step (fun k q => impl_Order_twoOne.l1 k ((List.range m).map fun i => ((nearN m ms i : Nat) : Int)) (a : Int) (m : Int) (a : Int) (aI (elemsTo (ms.getD a 0) m)) ((elemsTo (ms.getD a 0) m).length : Int) (q : Int) (m : Int) (aI ms)) (two1L m ms a) 12 q := by
  have h10 : 2 ^ m ≤ 2 ^ 10 := Nat.pow_le_pow_right (by omega) hm
  have lE : ((aI (elemsTo (ms.getD a 0) m)).length : Int) = ((elemsTo (ms.getD a 0) m).length : Int) := by simp
  have lN : (((List.range m).map fun i => ((nearN m ms i : Nat) : Int)).length : Int) = (m : Int) := by simp
  have hj := elems_lt2 (ms.getD a 0) m q hq
  have hle := elemsTo_length (ms.getD a 0) m
  have n1 := nearN_lt m ms a
  have n2 := nearN_lt m ms ((elemsTo (ms.getD a 0) m).getD q 0)
  have hx := and_lt (b := nearN m ms ((elemsTo (ms.getD a 0) m).getD q 0)) n1
  have go : ∀ k, impl_Order_twoOne.l1 (k + 1) ((List.range m).map fun i => ((nearN m ms i : Nat) : Int)) (a : Int) (m : Int) (a : Int) (aI (elemsTo (ms.getD a 0) m)) ((elemsTo (ms.getD a 0) m).length : Int) (q : Int) (m : Int) (aI ms) =
      if nearN m ms a &&& nearN m ms ((elemsTo (ms.getD a 0) m).getD q 0) = 0 then impl_Order_twoOne.l1 k ((List.range m).map fun i => ((nearN m ms i : Nat) : Int)) (a : Int) (m : Int) (a : Int) (aI (elemsTo (ms.getD a 0) m)) ((elemsTo (ms.getD a 0) m).length : Int) ((q + 1 : Nat) : Int) (m : Int) (aI ms)
      else (impl_members.f k ((nearN m ms a &&& nearN m ms ((elemsTo (ms.getD a 0) m).getD q 0) : Nat) : Int)).bind fun t => if 0 < (t.length : Int) then (some [(a : Int), (((elemsTo (ms.getD a 0) m).getD q 0 : Nat) : Int), rd t 0]).bind fun y => if y = [] then none else some y else none := by
    intro k
    rw [impl_Order_twoOne.l1, if_pos (by omega), if_pos (by omega), if_pos (by omega), if_pos (by omega), if_pos (by omega), rd_map, if_pos (by omega), if_pos (by omega), near_rd m ms a ha, near_rd m ms _ hj, and_nat _ _ (by omega) (by omega), wrap_ok (by omega) (by omega), nsucc]
    by_cases e : nearN m ms a &&& nearN m ms ((elemsTo (ms.getD a 0) m).getD q 0) = 0
    · rw [if_pos e, if_pos (by omega)]
    · rw [if_neg e, if_neg (by omega)]
  constructor
  · intro v hv k hk
    show impl_Order_twoOne.l1 (k + 1) _ _ _ _ _ _ _ _ _ = _
    rw [go]
    by_cases e : nearN m ms a &&& nearN m ms ((elemsTo (ms.getD a 0) m).getD q 0) = 0
    · rw [(two1_none m ms a q).2 e] at hv; cases hv
    · rw [if_neg e, members_k _ m hx hm k hk]
      have hp : 0 < (elemsTo (nearN m ms a &&& nearN m ms ((elemsTo (ms.getD a 0) m).getD q 0)) m).length := Nat.pos_of_ne_zero fun h => e ((elems_none _ m hx).1 h)
      simp only [Option.bind_some]
      rw [if_pos (by simpa using hp), if_neg (by simp)]
      unfold two1L two1 at hv
      rw [if_neg e] at hv
      simp only [Option.map_some, Option.some.injEq] at hv
      rw [← hv]
      have := rd_map (elemsTo (nearN m ms a &&& nearN m ms ((elemsTo (ms.getD a 0) m).getD q 0)) m) 0
      rw [show ((0 : Nat) : Int) = 0 from rfl] at this
      rw [this]
  · intro hn K r hr k hk
    show impl_Order_twoOne.l1 (k + 1) _ _ _ _ _ _ _ _ _ = _
    rw [go, if_pos ((two1_none m ms a q).1 hn)]
    exact hr k (by omega)
theorem impl_two_k (k : Nat) (hk : 2000 ≤ k) : impl_Order_twoOne.f k (m : Int) (aI ms) = some (((List.range' 0 m).findSome? (two0L m ms)).getD []) := by
  have h10 : 2 ^ m ≤ 2 ^ 10 := Nat.pow_le_pow_right (by omega) hm
  have lm : ((aI ms).length : Int) = (m : Int) := by simp [hl]
  unfold impl_Order_twoOne.f
  rw [indiff_k m hm ms hl hb k (by omega)]
  simp only [Option.bind_some]
  have hs : ∀ a, a < m → Step (fun k a => impl_Order_twoOne.l0 k ((List.range m).map fun i => ((nearN m ms i : Nat) : Int)) (m : Int) (a : Int) (m : Int) (aI ms)) (two0L m ms) 160 a := by
    intro a ha
    have hle := elemsTo_length (ms.getD a 0) m
    have a1 := getD_lt (Nat.two_pow_pos m) hb a
    have := search2 (F := fun k a => impl_Order_twoOne.l0 k ((List.range m).map fun i => ((nearN m ms i : Nat) : Int)) (m : Int) (a : Int) (m : Int) (aI ms)) (I := fun k q => impl_Order_twoOne.l1 k ((List.range m).map fun i => ((nearN m ms i : Nat) : Int)) (a : Int) (m : Int) (a : Int) (aI (elemsTo (ms.getD a 0) m)) ((elemsTo (ms.getD a 0) m).length : Int) (q : Int) (m : Int) (aI ms)) (GO := two0L m ms) (i := a) 12 (impl_two_l1 m hm ms hl hb a ha) rfl
      (fun k hk => by
        show impl_Order_twoOne.l0 (k + 1) _ _ _ _ _ = _
        rw [impl_Order_twoOne.l0, if_pos (by omega), if_pos (by omega), if_pos (by omega), rd_map, members_k _ m a1 hm k hk]
        simp only [Option.bind_some, List.length_map, Int.natCast_zero]) (fun k => by
        show impl_Order_twoOne.l1 (k + 1) _ _ _ _ _ _ _ _ _ = _
        rw [impl_Order_twoOne.l1, if_neg (by omega), wrap_ok (by omega) (by omega), nsucc])
    exact this.up (by omega)
  have hmc : m * (160 + 1) + 1 ≤ 1611 := by omega
  exact search0 (F := fun k a => impl_Order_twoOne.l0 k ((List.range m).map fun i => ((nearN m ms i : Nat) : Int)) (m : Int) (a : Int) (m : Int) (aI ms)) hs [] (fun k => by
    show impl_Order_twoOne.l0 (k + 1) _ _ _ _ _ = _
    rw [impl_Order_twoOne.l0, if_neg (by omega)]) k (by omega)
theorem spec_two_l1 (a : Nat) (ha : a < m) (q : Nat) (hq : q < (elemsTo (ms.getD a 0) m).length) :
    Step (fun k q => spec_TwoOneOf.l1 k (a : Int) (aI (elemsTo (ms.getD a 0) m)) ((elemsTo (ms.getD a 0) m).length : Int) (q : Int) (m : Int) (aI ms)) (two1P m ms a) 15 q := by
  have h10 : 2 ^ m ≤ 2 ^ 10 := Nat.pow_le_pow_right (by omega) hm
  have lE : ((aI (elemsTo (ms.getD a 0) m)).length : Int) = ((elemsTo (ms.getD a 0) m).length : Int) := by simp
  have hj := elems_lt2 (ms.getD a 0) m q hq
  have hle := elemsTo_length (ms.getD a 0) m
  have n1 := nearN_lt m ms a
  have n2 := nearN_lt m ms ((elemsTo (ms.getD a 0) m).getD q 0)
  have hx := and_lt (b := nearN m ms ((elemsTo (ms.getD a 0) m).getD q 0)) n1
  have go : ∀ k, 13 ≤ k → spec_TwoOneOf.l1 (k + 1) (a : Int) (aI (elemsTo (ms.getD a 0) m)) ((elemsTo (ms.getD a 0) m).length : Int) (q : Int) (m : Int) (aI ms) =
      spec_TwoOneOf.l2 k (a : Int) (((elemsTo (ms.getD a 0) m).getD q 0 : Nat) : Int) (aI (elemsTo (ms.getD a 0) m)) ((elemsTo (ms.getD a 0) m).length : Int) (q : Int) (aI (elemsTo (nearN m ms a &&& nearN m ms ((elemsTo (ms.getD a 0) m).getD q 0)) m)) ((elemsTo (nearN m ms a &&& nearN m ms ((elemsTo (ms.getD a 0) m).getD q 0)) m).length : Int) 0 (m : Int) (aI ms) := by
    intro k hk
    rw [spec_TwoOneOf.l1, if_pos (by omega), if_pos (by omega), if_pos (by omega), orFree_k m hm ms hl hb a ha k (by omega), rd_map, orFree_k m hm ms hl hb _ hj k (by omega)]
    simp only [Option.bind_some]
    rw [and_nat _ _ (by omega) (by omega), orList_k _ m hx (by omega) k (by omega)]
    simp only [Option.bind_some, List.length_map]
  have lX : ((aI (elemsTo (nearN m ms a &&& nearN m ms ((elemsTo (ms.getD a 0) m).getD q 0)) m)).length : Int) = ((elemsTo (nearN m ms a &&& nearN m ms ((elemsTo (ms.getD a 0) m).getD q 0)) m).length : Int) := by simp
  constructor
  · intro v hv k hk
    show spec_TwoOneOf.l1 (k + 1) _ _ _ _ _ _ = _
    rw [go k (by omega)]
    obtain ⟨k, rfl⟩ : ∃ q, k = q + 1 := ⟨k - 1, by omega⟩
    unfold two1P at hv
    by_cases e : nearN m ms a &&& nearN m ms ((elemsTo (ms.getD a 0) m).getD q 0) = 0
    · rw [(two1_none m ms a q).2 e] at hv; cases hv
    · have hp : 0 < (elemsTo (nearN m ms a &&& nearN m ms ((elemsTo (ms.getD a 0) m).getD q 0)) m).length := Nat.pos_of_ne_zero fun h => e ((elems_none _ m hx).1 h)
      rw [spec_TwoOneOf.l2, if_pos (by omega), if_pos (by omega), if_pos (by omega)]
      unfold two1L two1 at hv
      rw [if_neg e] at hv
      simp only [Option.map_some, Option.some.injEq] at hv
      rw [← hv]
      have := rd_map (elemsTo (nearN m ms a &&& nearN m ms ((elemsTo (ms.getD a 0) m).getD q 0)) m) 0
      rw [show ((0 : Nat) : Int) = 0 from rfl] at this
      rw [this]
  · intro hn K r hr k hk
    show spec_TwoOneOf.l1 (k + 1) _ _ _ _ _ _ = _
    rw [go k (by omega)]
    obtain ⟨k, rfl⟩ : ∃ q, k = q + 1 := ⟨k - 1, by omega⟩
    have e : nearN m ms a &&& nearN m ms ((elemsTo (ms.getD a 0) m).getD q 0) = 0 := by
      unfold two1P at hn
      exact (two1_none m ms a q).1 (by simpa using hn)
    rw [spec_TwoOneOf.l2, if_neg (by rw [(elems_none _ m hx).2 e]; omega), wrap_ok (by omega) (by omega), nsucc]
    exact hr k (by omega)
theorem spec_two_k (hg : ∀ k, 400 < k → spec_orGood.f k (m : Int) (aI ms) = some true) (k : Nat) (hk : 2500 ≤ k) : ∃ r b, spec_TwoOneOf.f k (m : Int) (aI ms) = some (r, b) ∧ (b = true ↔ HasTwo m ms) := by
  have h10 : 2 ^ m ≤ 2 ^ 10 := Nat.pow_le_pow_right (by omega) hm
  have lm : ((aI ms).length : Int) = (m : Int) := by simp [hl]
  have hs : ∀ a, a < m → Step (fun k a => spec_TwoOneOf.l0 k (a : Int) (m : Int) (aI ms)) (two0P m ms) 190 a := by
    intro a ha
    have hle := elemsTo_length (ms.getD a 0) m
    have a1 := getD_lt (Nat.two_pow_pos m) hb a
    have := search2 (F := fun k a => spec_TwoOneOf.l0 k (a : Int) (m : Int) (aI ms)) (I := fun k q => spec_TwoOneOf.l1 k (a : Int) (aI (elemsTo (ms.getD a 0) m)) ((elemsTo (ms.getD a 0) m).length : Int) (q : Int) (m : Int) (aI ms)) (GO := two0P m ms) (i := a) 12 (spec_two_l1 m hm ms hl hb a ha) rfl
      (fun k hk => by
        show spec_TwoOneOf.l0 (k + 1) _ _ _ = _
        rw [spec_TwoOneOf.l0, if_pos (by omega), if_pos (by omega), if_pos (by omega), rd_map, orList_k _ m a1 (by omega) k (by omega)]
        simp only [Option.bind_some, List.length_map, Int.natCast_zero]) (fun k => by
        show spec_TwoOneOf.l1 (k + 1) _ _ _ _ _ _ = _
        rw [spec_TwoOneOf.l1, if_neg (by omega), wrap_ok (by omega) (by omega), nsucc])
    exact this.up (by omega)
  have := search0 (F := fun k a => spec_TwoOneOf.l0 k (a : Int) (m : Int) (aI ms)) hs ([], false) (fun k => by
    show spec_TwoOneOf.l0 (k + 1) _ _ _ = _
    rw [spec_TwoOneOf.l0, if_neg (by omega)]) k (by omega)
  unfold spec_TwoOneOf.f
  rw [hg k (by omega)]
  simp only [Option.bind_some, if_true]
  have this' : spec_TwoOneOf.l0 k 0 (m : Int) (aI ms) = _ := this
  rw [this', two0P_eq, fs_map]
  cases h : (List.range' 0 m).findSome? (two0L m ms) with
  | none => exact ⟨_, _, rfl, by simpa using (two0_none m ms).1 h⟩
  | some v =>
    by_cases e : HasTwo m ms
    · exact ⟨_, _, rfl, by simpa using e⟩
    · rw [(two0_none m ms).2 e] at h; cases h
end

set_option linter.unusedSectionVars false
/-- The rows' sets: what is beside a, b and c, of which each is better than the one before. -/
def thr2 (m : Nat) (ms : List Nat) (a b r : Nat) : Option (List Int) :=
  if nearN m ms a &&& nearN m ms b &&& nearN m ms ((elemsTo (ms.getD b 0) m).getD r 0) = 0 then none
  else some [(a : Int), (b : Int), (((elemsTo (ms.getD b 0) m).getD r 0 : Nat) : Int), (((elemsTo (nearN m ms a &&& nearN m ms b &&& nearN m ms ((elemsTo (ms.getD b 0) m).getD r 0)) m).getD 0 0 : Nat) : Int)]
def thr1 (m : Nat) (ms : List Nat) (a q : Nat) : Option (List Int) := (List.range' 0 (elemsTo (ms.getD ((elemsTo (ms.getD a 0) m).getD q 0) 0) m).length).findSome? (thr2 m ms a ((elemsTo (ms.getD a 0) m).getD q 0))
def thr0 (m : Nat) (ms : List Nat) (a : Nat) : Option (List Int) := (List.range' 0 (elemsTo (ms.getD a 0) m).length).findSome? (thr1 m ms a)
def thr2P (m : Nat) (ms : List Nat) (a b r : Nat) : Option (List Int × Bool) := (thr2 m ms a b r).map fun l => (l, true)
def thr1P (m : Nat) (ms : List Nat) (a q : Nat) : Option (List Int × Bool) := (List.range' 0 (elemsTo (ms.getD ((elemsTo (ms.getD a 0) m).getD q 0) 0) m).length).findSome? (thr2P m ms a ((elemsTo (ms.getD a 0) m).getD q 0))
def thr0P (m : Nat) (ms : List Nat) (a : Nat) : Option (List Int × Bool) := (List.range' 0 (elemsTo (ms.getD a 0) m).length).findSome? (thr1P m ms a)
def HasThree (m : Nat) (ms : List Nat) : Prop := ∃ a b c, a < m ∧ b < m ∧ c < m ∧ tb ms a b = true ∧ tb ms b c = true ∧ nearN m ms a &&& nearN m ms b &&& nearN m ms c ≠ 0
theorem thr0P_eq (m : Nat) (ms : List Nat) : thr0P m ms = fun a => (thr0 m ms a).map fun l => (l, true) := by
  have h1 : thr1P m ms = fun a q => (thr1 m ms a q).map fun l => (l, true) := by
    funext a q
    exact fs_map _ _ _
  funext a
  unfold thr0P
  rw [h1]
  exact fs_map _ _ _
theorem thr2_none (m : Nat) (ms : List Nat) (a b r : Nat) : thr2 m ms a b r = none ↔ nearN m ms a &&& nearN m ms b &&& nearN m ms ((elemsTo (ms.getD b 0) m).getD r 0) = 0 := by
  unfold thr2
  split <;> simp_all
theorem thr0_none (m : Nat) (ms : List Nat) : (List.range' 0 m).findSome? (thr0 m ms) = none ↔ ¬ HasThree m ms := by
  rw [fs_none]
  constructor
  · rintro h ⟨a, b, c, ha, hb, hc, hab, hbc, hn⟩
    obtain ⟨q, hq, e⟩ := (elems_mem (ms.getD a 0) m b).2 ⟨hb, hab⟩
    obtain ⟨r, hr, e2⟩ := (elems_mem (ms.getD b 0) m c).2 ⟨hc, hbc⟩
    have h1 := (fs_none _ _).1 (h a ha) q hq
    unfold thr1 at h1
    rw [e] at h1
    have := (fs_none _ _).1 h1 r hr
    rw [thr2_none, e2] at this
    exact hn this
  · intro h a ha
    unfold thr0
    rw [fs_none]
    intro q hq
    unfold thr1
    rw [fs_none]
    intro r hr
    rw [thr2_none]
    by_cases e : nearN m ms a &&& nearN m ms ((elemsTo (ms.getD a 0) m).getD q 0) &&& nearN m ms ((elemsTo (ms.getD ((elemsTo (ms.getD a 0) m).getD q 0) 0) m).getD r 0) = 0
    · exact e
    · obtain ⟨h1, h2⟩ := (elems_mem (ms.getD a 0) m _).1 ⟨q, hq, rfl⟩
      obtain ⟨h3, h4⟩ := (elems_mem (ms.getD ((elemsTo (ms.getD a 0) m).getD q 0) 0) m _).1 ⟨r, hr, rfl⟩
      exact absurd ⟨a, _, _, ha, h1, h3, h2, h4, e⟩ h
section
variable (m : Nat) (hm : m ≤ 10) (ms : List Nat) (hl : ms.length = m) (hb : ∀ x ∈ ms, x < 2 ^ m)
include hm hl hb
theorem impl_thr_l2 (a b : Nat) (ha : a < m) (hB : b < m) (q : Nat) (hq1 : q < 10) (r : Nat) (hr : r < (elemsTo (ms.getD b 0) m).length) :
    Step (fun k r => impl_Order_threeOne.l2 k ((List.range m).map fun i => ((nearN m ms i : Nat) : Int)) (a : Int) (b : Int) (m : Int) (a : Int) (aI (elemsTo (ms.getD a 0) m)) ((elemsTo (ms.getD a 0) m).length : Int) (q : Int) (aI (elemsTo (ms.getD b 0) m)) ((elemsTo (ms.getD b 0) m).length : Int) (r : Int) (m : Int) (aI ms)) (thr2 m ms a b) 12 r := by
  have h10 : 2 ^ m ≤ 2 ^ 10 := Nat.pow_le_pow_right (by omega) hm
  have lE : ((aI (elemsTo (ms.getD b 0) m)).length : Int) = ((elemsTo (ms.getD b 0) m).length : Int) := by simp
  have lN : (((List.range m).map fun i => ((nearN m ms i : Nat) : Int)).length : Int) = (m : Int) := by simp
  have hj := elems_lt2 (ms.getD b 0) m r hr
  have hle := elemsTo_length (ms.getD b 0) m
  have n1 := nearN_lt m ms a
  have n2 := nearN_lt m ms b
  have n3 := nearN_lt m ms ((elemsTo (ms.getD b 0) m).getD r 0)
  have hx0 := and_lt (b := nearN m ms b) n1
  have hx := and_lt (b := nearN m ms ((elemsTo (ms.getD b 0) m).getD r 0)) hx0
  have go : ∀ k, impl_Order_threeOne.l2 (k + 1) ((List.range m).map fun i => ((nearN m ms i : Nat) : Int)) (a : Int) (b : Int) (m : Int) (a : Int) (aI (elemsTo (ms.getD a 0) m)) ((elemsTo (ms.getD a 0) m).length : Int) (q : Int) (aI (elemsTo (ms.getD b 0) m)) ((elemsTo (ms.getD b 0) m).length : Int) (r : Int) (m : Int) (aI ms) =
      if nearN m ms a &&& nearN m ms b &&& nearN m ms ((elemsTo (ms.getD b 0) m).getD r 0) = 0 then impl_Order_threeOne.l2 k ((List.range m).map fun i => ((nearN m ms i : Nat) : Int)) (a : Int) (b : Int) (m : Int) (a : Int) (aI (elemsTo (ms.getD a 0) m)) ((elemsTo (ms.getD a 0) m).length : Int) (q : Int) (aI (elemsTo (ms.getD b 0) m)) ((elemsTo (ms.getD b 0) m).length : Int) ((r + 1 : Nat) : Int) (m : Int) (aI ms)
      else (impl_members.f k ((nearN m ms a &&& nearN m ms b &&& nearN m ms ((elemsTo (ms.getD b 0) m).getD r 0) : Nat) : Int)).bind fun t => if 0 < (t.length : Int) then (some [(a : Int), (b : Int), (((elemsTo (ms.getD b 0) m).getD r 0 : Nat) : Int), rd t 0]).bind fun y => if y = [] then none else some y else none := by
    intro k
    rw [impl_Order_threeOne.l2, if_pos (by omega), if_pos (by omega), if_pos (by omega), if_pos (by omega), if_pos (by omega), if_pos (by omega), if_pos (by omega), rd_map, if_pos (by omega), if_pos (by omega), near_rd m ms a ha, near_rd m ms b hB, near_rd m ms _ hj, and_nat _ _ (by omega) (by omega), and_nat _ _ (by omega) (by omega), wrap_ok (by omega) (by omega), nsucc]
    by_cases e : nearN m ms a &&& nearN m ms b &&& nearN m ms ((elemsTo (ms.getD b 0) m).getD r 0) = 0
    · rw [if_pos e, if_pos (by omega)]
    · rw [if_neg e, if_neg (by omega)]
  constructor
  · intro v hv k hk
    show impl_Order_threeOne.l2 (k + 1) _ _ _ _ _ _ _ _ _ _ _ _ _ = _
    rw [go]
    by_cases e : nearN m ms a &&& nearN m ms b &&& nearN m ms ((elemsTo (ms.getD b 0) m).getD r 0) = 0
    · rw [(thr2_none m ms a b r).2 e] at hv; cases hv
    · rw [if_neg e, members_k _ m hx hm k hk]
      have hp : 0 < (elemsTo (nearN m ms a &&& nearN m ms b &&& nearN m ms ((elemsTo (ms.getD b 0) m).getD r 0)) m).length := Nat.pos_of_ne_zero fun h => e ((elems_none _ m hx).1 h)
      simp only [Option.bind_some]
      rw [if_pos (by simpa using hp), if_neg (by simp)]
      unfold thr2 at hv
      rw [if_neg e] at hv
      simp only [Option.some.injEq] at hv
      rw [← hv]
      have := rd_map (elemsTo (nearN m ms a &&& nearN m ms b &&& nearN m ms ((elemsTo (ms.getD b 0) m).getD r 0)) m) 0
      rw [show ((0 : Nat) : Int) = 0 from rfl] at this
      rw [this]
  · intro hn K r hr k hk
    show impl_Order_threeOne.l2 (k + 1) _ _ _ _ _ _ _ _ _ _ _ _ _ = _
    rw [go, if_pos ((thr2_none m ms a b _).1 hn)]
    exact hr k (by omega)
theorem impl_thr_l1 (a : Nat) (ha : a < m) (q : Nat) (hq : q < (elemsTo (ms.getD a 0) m).length) :
    Step (fun k q => impl_Order_threeOne.l1 k ((List.range m).map fun i => ((nearN m ms i : Nat) : Int)) (a : Int) (m : Int) (a : Int) (aI (elemsTo (ms.getD a 0) m)) ((elemsTo (ms.getD a 0) m).length : Int) (q : Int) (m : Int) (aI ms)) (thr1 m ms a) 160 q := by
  have lE : ((aI (elemsTo (ms.getD a 0) m)).length : Int) = ((elemsTo (ms.getD a 0) m).length : Int) := by simp
  have lm : ((aI ms).length : Int) = (m : Int) := by simp [hl]
  have hj := elems_lt2 (ms.getD a 0) m q hq
  have hle := elemsTo_length (ms.getD a 0) m
  have hle2 := elemsTo_length (ms.getD ((elemsTo (ms.getD a 0) m).getD q 0) 0) m
  have a2 := getD_lt (Nat.two_pow_pos m) hb ((elemsTo (ms.getD a 0) m).getD q 0)
  have := search2 (F := fun k q => impl_Order_threeOne.l1 k ((List.range m).map fun i => ((nearN m ms i : Nat) : Int)) (a : Int) (m : Int) (a : Int) (aI (elemsTo (ms.getD a 0) m)) ((elemsTo (ms.getD a 0) m).length : Int) (q : Int) (m : Int) (aI ms))
    (I := fun k r => impl_Order_threeOne.l2 k ((List.range m).map fun i => ((nearN m ms i : Nat) : Int)) (a : Int) (((elemsTo (ms.getD a 0) m).getD q 0 : Nat) : Int) (m : Int) (a : Int) (aI (elemsTo (ms.getD a 0) m)) ((elemsTo (ms.getD a 0) m).length : Int) (q : Int) (aI (elemsTo (ms.getD ((elemsTo (ms.getD a 0) m).getD q 0) 0) m)) ((elemsTo (ms.getD ((elemsTo (ms.getD a 0) m).getD q 0) 0) m).length : Int) (r : Int) (m : Int) (aI ms)) (GO := thr1 m ms a) (i := q) 12 (impl_thr_l2 m hm ms hl hb a _ ha hj q (by omega)) rfl
    (fun k hk => by
      show impl_Order_threeOne.l1 (k + 1) _ _ _ _ _ _ _ _ _ = _
      rw [impl_Order_threeOne.l1, if_pos (by omega), if_pos (by omega), if_pos (by omega), rd_map, if_pos (by omega), if_pos (by omega), rd_map, members_k _ m a2 hm k hk]
      simp only [Option.bind_some, List.length_map, Int.natCast_zero]) (fun k => by
      show impl_Order_threeOne.l2 (k + 1) _ _ _ _ _ _ _ _ _ _ _ _ _ = _
      rw [impl_Order_threeOne.l2, if_neg (by omega), wrap_ok (by omega) (by omega), nsucc])
  exact this.up (by omega)
theorem impl_thr_k (k : Nat) (hk : 20000 ≤ k) : impl_Order_threeOne.f k (m : Int) (aI ms) = some (((List.range' 0 m).findSome? (thr0 m ms)).getD []) := by
  have h10 : 2 ^ m ≤ 2 ^ 10 := Nat.pow_le_pow_right (by omega) hm
  have lm : ((aI ms).length : Int) = (m : Int) := by simp [hl]
  unfold impl_Order_threeOne.f
  rw [indiff_k m hm ms hl hb k (by omega)]
  simp only [Option.bind_some]
  have hs : ∀ a, a < m → Step (fun k a => impl_Order_threeOne.l0 k ((List.range m).map fun i => ((nearN m ms i : Nat) : Int)) (m : Int) (a : Int) (m : Int) (aI ms)) (thr0 m ms) 1640 a := by
    intro a ha
    have hle := elemsTo_length (ms.getD a 0) m
    have a1 := getD_lt (Nat.two_pow_pos m) hb a
    have := search2 (F := fun k a => impl_Order_threeOne.l0 k ((List.range m).map fun i => ((nearN m ms i : Nat) : Int)) (m : Int) (a : Int) (m : Int) (aI ms)) (I := fun k q => impl_Order_threeOne.l1 k ((List.range m).map fun i => ((nearN m ms i : Nat) : Int)) (a : Int) (m : Int) (a : Int) (aI (elemsTo (ms.getD a 0) m)) ((elemsTo (ms.getD a 0) m).length : Int) (q : Int) (m : Int) (aI ms)) (GO := thr0 m ms) (i := a) 12 (impl_thr_l1 m hm ms hl hb a ha) rfl
      (fun k hk => by
        show impl_Order_threeOne.l0 (k + 1) _ _ _ _ _ = _
        rw [impl_Order_threeOne.l0, if_pos (by omega), if_pos (by omega), if_pos (by omega), rd_map, members_k _ m a1 hm k hk]
        simp only [Option.bind_some, List.length_map, Int.natCast_zero]) (fun k => by
        show impl_Order_threeOne.l1 (k + 1) _ _ _ _ _ _ _ _ _ = _
        rw [impl_Order_threeOne.l1, if_neg (by omega), wrap_ok (by omega) (by omega), nsucc])
    exact this.up (by omega)
  have hmc : m * (1640 + 1) + 1 ≤ 16411 := by omega
  exact search0 (F := fun k a => impl_Order_threeOne.l0 k ((List.range m).map fun i => ((nearN m ms i : Nat) : Int)) (m : Int) (a : Int) (m : Int) (aI ms)) hs [] (fun k => by
    show impl_Order_threeOne.l0 (k + 1) _ _ _ _ _ = _
    rw [impl_Order_threeOne.l0, if_neg (by omega)]) k (by omega)
theorem spec_thr_l2 (a b : Nat) (ha : a < m) (hB : b < m) (q : Nat) (hq1 : q < 10) (r : Nat) (hr : r < (elemsTo (ms.getD b 0) m).length) :
    Step (fun k r => spec_ThreeOneOf.l2 k (a : Int) (b : Int) (aI (elemsTo (ms.getD a 0) m)) ((elemsTo (ms.getD a 0) m).length : Int) (q : Int) (aI (elemsTo (ms.getD b 0) m)) ((elemsTo (ms.getD b 0) m).length : Int) (r : Int) (m : Int) (aI ms)) (thr2P m ms a b) 15 r := by
  have h10 : 2 ^ m ≤ 2 ^ 10 := Nat.pow_le_pow_right (by omega) hm
  have lE : ((aI (elemsTo (ms.getD b 0) m)).length : Int) = ((elemsTo (ms.getD b 0) m).length : Int) := by simp
  have hj := elems_lt2 (ms.getD b 0) m r hr
  have hle := elemsTo_length (ms.getD b 0) m
  have n1 := nearN_lt m ms a
  have n2 := nearN_lt m ms b
  have n3 := nearN_lt m ms ((elemsTo (ms.getD b 0) m).getD r 0)
  have hx0 := and_lt (b := nearN m ms b) n1
  have hx := and_lt (b := nearN m ms ((elemsTo (ms.getD b 0) m).getD r 0)) hx0
  have go : ∀ k, 13 ≤ k → spec_ThreeOneOf.l2 (k + 1) (a : Int) (b : Int) (aI (elemsTo (ms.getD a 0) m)) ((elemsTo (ms.getD a 0) m).length : Int) (q : Int) (aI (elemsTo (ms.getD b 0) m)) ((elemsTo (ms.getD b 0) m).length : Int) (r : Int) (m : Int) (aI ms) =
      spec_ThreeOneOf.l3 k (a : Int) (b : Int) (((elemsTo (ms.getD b 0) m).getD r 0 : Nat) : Int) (aI (elemsTo (ms.getD a 0) m)) ((elemsTo (ms.getD a 0) m).length : Int) (q : Int) (aI (elemsTo (ms.getD b 0) m)) ((elemsTo (ms.getD b 0) m).length : Int) (r : Int) (aI (elemsTo (nearN m ms a &&& nearN m ms b &&& nearN m ms ((elemsTo (ms.getD b 0) m).getD r 0)) m)) ((elemsTo (nearN m ms a &&& nearN m ms b &&& nearN m ms ((elemsTo (ms.getD b 0) m).getD r 0)) m).length : Int) 0 (m : Int) (aI ms) := by
    intro k hk
    rw [spec_ThreeOneOf.l2, if_pos (by omega), if_pos (by omega), if_pos (by omega), orFree_k m hm ms hl hb a ha k (by omega), orFree_k m hm ms hl hb b hB k (by omega), rd_map, orFree_k m hm ms hl hb _ hj k (by omega)]
    simp only [Option.bind_some]
    rw [and_nat _ _ (by omega) (by omega), and_nat _ _ (by omega) (by omega), orList_k _ m hx (by omega) k (by omega)]
    simp only [Option.bind_some, List.length_map]
  have lX : ((aI (elemsTo (nearN m ms a &&& nearN m ms b &&& nearN m ms ((elemsTo (ms.getD b 0) m).getD r 0)) m)).length : Int) = ((elemsTo (nearN m ms a &&& nearN m ms b &&& nearN m ms ((elemsTo (ms.getD b 0) m).getD r 0)) m).length : Int) := by simp
  constructor
  · intro v hv k hk
    show spec_ThreeOneOf.l2 (k + 1) _ _ _ _ _ _ _ _ _ _ = _
    rw [go k (by omega)]
    obtain ⟨k, rfl⟩ : ∃ q, k = q + 1 := ⟨k - 1, by omega⟩
    unfold thr2P at hv
    by_cases e : nearN m ms a &&& nearN m ms b &&& nearN m ms ((elemsTo (ms.getD b 0) m).getD r 0) = 0
    · rw [(thr2_none m ms a b r).2 e] at hv; cases hv
    · have hp : 0 < (elemsTo (nearN m ms a &&& nearN m ms b &&& nearN m ms ((elemsTo (ms.getD b 0) m).getD r 0)) m).length := Nat.pos_of_ne_zero fun h => e ((elems_none _ m hx).1 h)
      rw [spec_ThreeOneOf.l3, if_pos (by omega), if_pos (by omega), if_pos (by omega)]
      unfold thr2 at hv
      rw [if_neg e] at hv
      simp only [Option.map_some, Option.some.injEq] at hv
      rw [← hv]
      have := rd_map (elemsTo (nearN m ms a &&& nearN m ms b &&& nearN m ms ((elemsTo (ms.getD b 0) m).getD r 0)) m) 0
      rw [show ((0 : Nat) : Int) = 0 from rfl] at this
      rw [this]
  · intro hn K v hv k hk
    show spec_ThreeOneOf.l2 (k + 1) _ _ _ _ _ _ _ _ _ _ = _
    rw [go k (by omega)]
    obtain ⟨k, rfl⟩ : ∃ q, k = q + 1 := ⟨k - 1, by omega⟩
    have e : nearN m ms a &&& nearN m ms b &&& nearN m ms ((elemsTo (ms.getD b 0) m).getD r 0) = 0 := by
      unfold thr2P at hn
      exact (thr2_none m ms a b r).1 (by simpa using hn)
    rw [spec_ThreeOneOf.l3, if_neg (by rw [(elems_none _ m hx).2 e]; omega), wrap_ok (by omega) (by omega), nsucc]
    exact hv k (by omega)
theorem spec_thr_l1 (a : Nat) (ha : a < m) (q : Nat) (hq : q < (elemsTo (ms.getD a 0) m).length) :
    Step (fun k q => spec_ThreeOneOf.l1 k (a : Int) (aI (elemsTo (ms.getD a 0) m)) ((elemsTo (ms.getD a 0) m).length : Int) (q : Int) (m : Int) (aI ms)) (thr1P m ms a) 190 q := by
  have lE : ((aI (elemsTo (ms.getD a 0) m)).length : Int) = ((elemsTo (ms.getD a 0) m).length : Int) := by simp
  have lm : ((aI ms).length : Int) = (m : Int) := by simp [hl]
  have hj := elems_lt2 (ms.getD a 0) m q hq
  have hle := elemsTo_length (ms.getD a 0) m
  have hle2 := elemsTo_length (ms.getD ((elemsTo (ms.getD a 0) m).getD q 0) 0) m
  have a2 := getD_lt (Nat.two_pow_pos m) hb ((elemsTo (ms.getD a 0) m).getD q 0)
  have := search2 (F := fun k q => spec_ThreeOneOf.l1 k (a : Int) (aI (elemsTo (ms.getD a 0) m)) ((elemsTo (ms.getD a 0) m).length : Int) (q : Int) (m : Int) (aI ms))
    (I := fun k r => spec_ThreeOneOf.l2 k (a : Int) (((elemsTo (ms.getD a 0) m).getD q 0 : Nat) : Int) (aI (elemsTo (ms.getD a 0) m)) ((elemsTo (ms.getD a 0) m).length : Int) (q : Int) (aI (elemsTo (ms.getD ((elemsTo (ms.getD a 0) m).getD q 0) 0) m)) ((elemsTo (ms.getD ((elemsTo (ms.getD a 0) m).getD q 0) 0) m).length : Int) (r : Int) (m : Int) (aI ms)) (GO := thr1P m ms a) (i := q) 12 (spec_thr_l2 m hm ms hl hb a _ ha hj q (by omega)) rfl
    (fun k hk => by
      show spec_ThreeOneOf.l1 (k + 1) _ _ _ _ _ _ = _
      rw [spec_ThreeOneOf.l1, if_pos (by omega), if_pos (by omega), if_pos (by omega), rd_map, if_pos (by omega), if_pos (by omega), rd_map, orList_k _ m a2 (by omega) k (by omega)]
      simp only [Option.bind_some, List.length_map, Int.natCast_zero]) (fun k => by
      show spec_ThreeOneOf.l2 (k + 1) _ _ _ _ _ _ _ _ _ _ = _
      rw [spec_ThreeOneOf.l2, if_neg (by omega), wrap_ok (by omega) (by omega), nsucc])
  exact this.up (by omega)
theorem spec_thr_k (hg : ∀ k, 400 < k → spec_orGood.f k (m : Int) (aI ms) = some true) (k : Nat) (hk : 20000 ≤ k) : ∃ r b, spec_ThreeOneOf.f k (m : Int) (aI ms) = some (r, b) ∧ (b = true ↔ HasThree m ms) := by
  have h10 : 2 ^ m ≤ 2 ^ 10 := Nat.pow_le_pow_right (by omega) hm
  have lm : ((aI ms).length : Int) = (m : Int) := by simp [hl]
  have hs : ∀ a, a < m → Step (fun k a => spec_ThreeOneOf.l0 k (a : Int) (m : Int) (aI ms)) (thr0P m ms) 1930 a := by
    intro a ha
    have hle := elemsTo_length (ms.getD a 0) m
    have a1 := getD_lt (Nat.two_pow_pos m) hb a
    have := search2 (F := fun k a => spec_ThreeOneOf.l0 k (a : Int) (m : Int) (aI ms)) (I := fun k q => spec_ThreeOneOf.l1 k (a : Int) (aI (elemsTo (ms.getD a 0) m)) ((elemsTo (ms.getD a 0) m).length : Int) (q : Int) (m : Int) (aI ms)) (GO := thr0P m ms) (i := a) 12 (spec_thr_l1 m hm ms hl hb a ha) rfl
      (fun k hk => by
        show spec_ThreeOneOf.l0 (k + 1) _ _ _ = _
        rw [spec_ThreeOneOf.l0, if_pos (by omega), if_pos (by omega), if_pos (by omega), rd_map, orList_k _ m a1 (by omega) k (by omega)]
        simp only [Option.bind_some, List.length_map, Int.natCast_zero]) (fun k => by
        show spec_ThreeOneOf.l1 (k + 1) _ _ _ _ _ _ = _
        rw [spec_ThreeOneOf.l1, if_neg (by omega), wrap_ok (by omega) (by omega), nsucc])
    exact this.up (by omega)
  have := search0 (F := fun k a => spec_ThreeOneOf.l0 k (a : Int) (m : Int) (aI ms)) hs ([], false) (fun k => by
    show spec_ThreeOneOf.l0 (k + 1) _ _ _ = _
    rw [spec_ThreeOneOf.l0, if_neg (by omega)]) k (by omega)
  unfold spec_ThreeOneOf.f
  rw [hg k (by omega)]
  simp only [Option.bind_some, if_true]
  have this' : spec_ThreeOneOf.l0 k 0 (m : Int) (aI ms) = _ := this
  rw [this', thr0P_eq, fs_map]
  cases h : (List.range' 0 m).findSome? (thr0 m ms) with
  | none => exact ⟨_, _, rfl, by simpa using (thr0_none m ms).1 h⟩
  | some v =>
    by_cases e : HasThree m ms
    · exact ⟨_, _, rfl, by simpa using e⟩
    · rw [(thr0_none m ms).2 e] at h; cases h
end

set_option linter.unusedSectionVars false
/-! Two and two, and what the kinds come to. -/
def qq3 (ms : List Nat) (a b c d : Nat) : Option (List Int) := if tb ms a b && tb ms c d && !tb ms c b && !tb ms a d then some [(a : Int), (b : Int), (c : Int), (d : Int)] else none
def qq2 (m : Nat) (ms : List Nat) (a b c : Nat) : Option (List Int) := (List.range' 0 m).findSome? (qq3 ms a b c)
def qq1 (m : Nat) (ms : List Nat) (a b : Nat) : Option (List Int) := (List.range' 0 m).findSome? (qq2 m ms a b)
def qq0 (m : Nat) (ms : List Nat) (a : Nat) : Option (List Int) := (List.range' 0 m).findSome? (qq1 m ms a)
def HasFour (m : Nat) (ms : List Nat) : Prop := ∃ a b c d, a < m ∧ b < m ∧ c < m ∧ d < m ∧ tb ms a b = true ∧ tb ms c d = true ∧ tb ms c b = false ∧ tb ms a d = false
theorem qq3_none (ms : List Nat) (a b c d : Nat) : qq3 ms a b c d = none ↔ ¬ (tb ms a b = true ∧ tb ms c d = true ∧ tb ms c b = false ∧ tb ms a d = false) := by
  unfold qq3
  cases tb ms a b <;> cases tb ms c d <;> cases tb ms c b <;> cases tb ms a d <;> simp
theorem qq0_none (m : Nat) (ms : List Nat) : (List.range' 0 m).findSome? (qq0 m ms) = none ↔ ¬ HasFour m ms := by
  rw [fs_none]
  constructor
  · rintro h ⟨a, b, c, d, ha, hb, hc, hd, h1⟩
    exact (qq3_none ms a b c d).1 ((fs_none _ _).1 ((fs_none _ _).1 ((fs_none _ _).1 (h a ha) b hb) c hc) d hd) h1
  · intro h a ha
    unfold qq0
    rw [fs_none]
    intro b hb
    unfold qq1
    rw [fs_none]
    intro c hc
    unfold qq2
    rw [fs_none]
    intro d hd
    rw [qq3_none]
    intro h1
    exact h ⟨a, b, c, d, ha, hb, hc, hd, h1⟩
def ss3 (m : Nat) (ms : List Nat) (a b c q : Nat) : Option Bool := if (nearN m ms a).testBit ((elemsTo (ms.getD c 0) m).getD q 0) && (nearN m ms c).testBit b then some true else none
def ss2 (m : Nat) (ms : List Nat) (a b c : Nat) : Option Bool := (List.range' 0 (elemsTo (ms.getD c 0) m).length).findSome? (ss3 m ms a b c)
def ss1 (m : Nat) (ms : List Nat) (a q : Nat) : Option Bool := (List.range' 0 m).findSome? (ss2 m ms a ((elemsTo (ms.getD a 0) m).getD q 0))
def ss0 (m : Nat) (ms : List Nat) (a : Nat) : Option Bool := (List.range' 0 (elemsTo (ms.getD a 0) m).length).findSome? (ss1 m ms a)
def HasFar (m : Nat) (ms : List Nat) : Prop := ∃ a b c d, a < m ∧ b < m ∧ c < m ∧ d < m ∧ tb ms a b = true ∧ tb ms c d = true ∧ (nearN m ms a).testBit d = true ∧ (nearN m ms c).testBit b = true
theorem ss3_none (m : Nat) (ms : List Nat) (a b c q : Nat) : ss3 m ms a b c q = none ↔ ¬ ((nearN m ms a).testBit ((elemsTo (ms.getD c 0) m).getD q 0) = true ∧ (nearN m ms c).testBit b = true) := by
  unfold ss3
  cases (nearN m ms a).testBit ((elemsTo (ms.getD c 0) m).getD q 0) <;> cases (nearN m ms c).testBit b <;> simp
theorem ss0_none (m : Nat) (ms : List Nat) : (List.range' 0 m).findSome? (ss0 m ms) = none ↔ ¬ HasFar m ms := by
  rw [fs_none]
  constructor
  · rintro h ⟨a, b, c, d, ha, hb, hc, hd, hab, hcd, h1, h2⟩
    obtain ⟨q, hq, e⟩ := (elems_mem (ms.getD a 0) m b).2 ⟨hb, hab⟩
    obtain ⟨r, hr, e2⟩ := (elems_mem (ms.getD c 0) m d).2 ⟨hd, hcd⟩
    have h3 := (fs_none _ _).1 (h a ha) q hq
    unfold ss1 at h3
    rw [e] at h3
    have h4 := (fs_none _ _).1 ((fs_none _ _).1 h3 c hc) r hr
    rw [ss3_none, e2] at h4
    exact h4 ⟨h1, h2⟩
  · intro h a ha
    unfold ss0
    rw [fs_none]
    intro q hq
    unfold ss1
    rw [fs_none]
    intro c hc
    unfold ss2
    rw [fs_none]
    intro r hr
    rw [ss3_none]
    rintro ⟨h1, h2⟩
    obtain ⟨h3, h4⟩ := (elems_mem (ms.getD a 0) m _).1 ⟨q, hq, rfl⟩
    obtain ⟨h5, h6⟩ := (elems_mem (ms.getD c 0) m _).1 ⟨r, hr, rfl⟩
    exact h ⟨a, _, c, _, ha, h3, hc, h5, h4, h6, h1, h2⟩
theorem ss_val (m : Nat) (ms : List Nat) (v : Bool) (h : (List.range' 0 m).findSome? (ss0 m ms) = some v) : v = true := by
  obtain ⟨a, _, h⟩ := fs_some _ _ _ h
  obtain ⟨q, _, h⟩ := fs_some _ _ _ h
  obtain ⟨c, _, h⟩ := fs_some _ _ _ h
  obtain ⟨r, _, h⟩ := fs_some _ _ _ h
  unfold ss3 at h
  split at h
  · exact (Option.some.inj h).symm
  · cases h
section
variable (m : Nat) (hm : m ≤ 10) (ms : List Nat) (hl : ms.length = m) (hb : ∀ x ∈ ms, x < 2 ^ m)
include hm hl hb
theorem impl_qq_l3 (a b c : Nat) (ha : a < m) (hB : b < m) (hc : c < m) (d : Nat) (hd : d < m) :
    Step (fun k d => impl_Order_twoTwo.l3 k (a : Int) (b : Int) (c : Int) (m : Int) (a : Int) (m : Int) (b : Int) (m : Int) (c : Int) (m : Int) (d : Int) (m : Int) (aI ms)) (qq3 ms a b c) 0 d := by
  have h10 : 2 ^ m ≤ 2 ^ 10 := Nat.pow_le_pow_right (by omega) hm
  have bet : ∀ i j : Nat, i < m → j < m → impl_Order_better.f (m : Int) (aI ms) (i : Int) (j : Int) = some (tb ms i j) := fun i j hi hj => by
    have a1 := getD_lt (Nat.two_pow_pos m) hb i
    exact better_k (m : Int) (aI ms) i j _ (by simp; omega) (rd_map ms i) (by omega) (by omega)
  have go : ∀ k, impl_Order_twoTwo.l3 (k + 1) (a : Int) (b : Int) (c : Int) (m : Int) (a : Int) (m : Int) (b : Int) (m : Int) (c : Int) (m : Int) (d : Int) (m : Int) (aI ms) =
      match qq3 ms a b c d with
      | some v => some v
      | none => impl_Order_twoTwo.l3 k (a : Int) (b : Int) (c : Int) (m : Int) (a : Int) (m : Int) (b : Int) (m : Int) (c : Int) (m : Int) ((d + 1 : Nat) : Int) (m : Int) (aI ms) := by
    intro k
    rw [impl_Order_twoTwo.l3, if_pos (by omega), bet a b ha hB, bet c d hc hd, bet c b hc hB, bet a d ha hd, wrap_ok (by omega) (by omega), nsucc]
    unfold qq3
    cases tb ms a b <;> cases tb ms c d <;> cases tb ms c b <;> cases tb ms a d <;> simp
  constructor
  · intro v hv k _
    show impl_Order_twoTwo.l3 (k + 1) _ _ _ _ _ _ _ _ _ _ _ _ _ = _
    rw [go, hv]
  · intro hn K r hr k hk
    show impl_Order_twoTwo.l3 (k + 1) _ _ _ _ _ _ _ _ _ _ _ _ _ = _
    rw [go, hn]
    exact hr k (by omega)
theorem impl_qq_k (k : Nat) (hk : 30000 ≤ k) : impl_Order_twoTwo.f k (m : Int) (aI ms) = some (((List.range' 0 m).findSome? (qq0 m ms)).getD []) := by
  have s2 : ∀ a b c, a < m → b < m → c < m → Step (fun k c => impl_Order_twoTwo.l2 k (a : Int) (b : Int) (m : Int) (a : Int) (m : Int) (b : Int) (m : Int) (c : Int) (m : Int) (aI ms)) (qq2 m ms a b) 12 c := by
    intro a b c ha hB hc
    have := search2 (F := fun k c => impl_Order_twoTwo.l2 k (a : Int) (b : Int) (m : Int) (a : Int) (m : Int) (b : Int) (m : Int) (c : Int) (m : Int) (aI ms)) (GO := qq2 m ms a b) (i := c) 0 (impl_qq_l3 m hm ms hl hb a b c ha hB hc) rfl
      (fun k _ => by
        show impl_Order_twoTwo.l2 (k + 1) _ _ _ _ _ _ _ _ _ _ = _
        rw [impl_Order_twoTwo.l2, if_pos (by omega), Int.natCast_zero]) (fun k => by
        show impl_Order_twoTwo.l3 (k + 1) _ _ _ _ _ _ _ _ _ _ _ _ _ = _
        rw [impl_Order_twoTwo.l3, if_neg (by omega), wrap_ok (by omega) (by omega), nsucc])
    exact this.up (by omega)
  have s1 : ∀ a b, a < m → b < m → Step (fun k b => impl_Order_twoTwo.l1 k (a : Int) (m : Int) (a : Int) (m : Int) (b : Int) (m : Int) (aI ms)) (qq1 m ms a) 132 b := by
    intro a b ha hB
    have := search2 (F := fun k b => impl_Order_twoTwo.l1 k (a : Int) (m : Int) (a : Int) (m : Int) (b : Int) (m : Int) (aI ms)) (GO := qq1 m ms a) (i := b) 0 (fun c hc => s2 a b c ha hB hc) rfl
      (fun k _ => by
        show impl_Order_twoTwo.l1 (k + 1) _ _ _ _ _ _ _ = _
        rw [impl_Order_twoTwo.l1, if_pos (by omega), Int.natCast_zero]) (fun k => by
        show impl_Order_twoTwo.l2 (k + 1) _ _ _ _ _ _ _ _ _ _ = _
        rw [impl_Order_twoTwo.l2, if_neg (by omega), wrap_ok (by omega) (by omega), nsucc])
    exact this.up (by omega)
  have s0 : ∀ a, a < m → Step (fun k a => impl_Order_twoTwo.l0 k (m : Int) (a : Int) (m : Int) (aI ms)) (qq0 m ms) 1332 a := by
    intro a ha
    have := search2 (F := fun k a => impl_Order_twoTwo.l0 k (m : Int) (a : Int) (m : Int) (aI ms)) (GO := qq0 m ms) (i := a) 0 (fun b hB => s1 a b ha hB) rfl
      (fun k _ => by
        show impl_Order_twoTwo.l0 (k + 1) _ _ _ _ = _
        rw [impl_Order_twoTwo.l0, if_pos (by omega), Int.natCast_zero]) (fun k => by
        show impl_Order_twoTwo.l1 (k + 1) _ _ _ _ _ _ _ = _
        rw [impl_Order_twoTwo.l1, if_neg (by omega), wrap_ok (by omega) (by omega), nsucc])
    exact this.up (by omega)
  unfold impl_Order_twoTwo.f
  exact search0 (F := fun k a => impl_Order_twoTwo.l0 k (m : Int) (a : Int) (m : Int) (aI ms)) s0 [] (fun k => by
    show impl_Order_twoTwo.l0 (k + 1) _ _ _ _ = _
    rw [impl_Order_twoTwo.l0, if_neg (by omega)]) k (by omega)
theorem indif_k (i j : Nat) (hi : i < m) (hj : j < m) (k : Nat) (hk : m + 2 < k) : spec_seIndifferent.f k (m : Int) (aI ms) (i : Int) (j : Int) = some ((nearN m ms i).testBit j) := by
  unfold spec_seIndifferent.f
  rw [orFree_k m hm ms hl hb i hi k hk]
  simp only [Option.bind_some]
  rw [orHas_k _ j (by omega)]
  rfl
theorem spec_ss_l3 (a b c q : Nat) (ha : a < m) (hB : b < m) (hc : c < m) (hq : q < 10) (r : Nat) (hr : r < (elemsTo (ms.getD c 0) m).length) :
    Step (fun k r => spec_seTwoTwo.l3 k (a : Int) (b : Int) (c : Int) (aI (elemsTo (ms.getD a 0) m)) ((elemsTo (ms.getD a 0) m).length : Int) (q : Int) (aI (elemsTo (ms.getD c 0) m)) ((elemsTo (ms.getD c 0) m).length : Int) (r : Int) (m : Int) (aI ms)) (ss3 m ms a b c) 13 r := by
  have lE : ((aI (elemsTo (ms.getD c 0) m)).length : Int) = ((elemsTo (ms.getD c 0) m).length : Int) := by simp
  have hj := elems_lt2 (ms.getD c 0) m r hr
  have hle := elemsTo_length (ms.getD c 0) m
  have go : ∀ k, 13 ≤ k → spec_seTwoTwo.l3 (k + 1) (a : Int) (b : Int) (c : Int) (aI (elemsTo (ms.getD a 0) m)) ((elemsTo (ms.getD a 0) m).length : Int) (q : Int) (aI (elemsTo (ms.getD c 0) m)) ((elemsTo (ms.getD c 0) m).length : Int) (r : Int) (m : Int) (aI ms) =
      match ss3 m ms a b c r with
      | some v => some v
      | none => spec_seTwoTwo.l3 k (a : Int) (b : Int) (c : Int) (aI (elemsTo (ms.getD a 0) m)) ((elemsTo (ms.getD a 0) m).length : Int) (q : Int) (aI (elemsTo (ms.getD c 0) m)) ((elemsTo (ms.getD c 0) m).length : Int) ((r + 1 : Nat) : Int) (m : Int) (aI ms) := by
    intro k hk
    rw [spec_seTwoTwo.l3, if_pos (by omega), if_pos (by omega), if_pos (by omega), rd_map, indif_k m hm ms hl hb a _ ha hj k (by omega), indif_k m hm ms hl hb c b hc hB k (by omega), wrap_ok (by omega) (by omega), nsucc]
    unfold ss3
    cases (nearN m ms a).testBit ((elemsTo (ms.getD c 0) m).getD r 0) <;> cases (nearN m ms c).testBit b <;> simp
  constructor
  · intro v hv k hk
    show spec_seTwoTwo.l3 (k + 1) _ _ _ _ _ _ _ _ _ _ _ = _
    rw [go k hk, hv]
  · intro hn K v hv k hk
    show spec_seTwoTwo.l3 (k + 1) _ _ _ _ _ _ _ _ _ _ _ = _
    rw [go k (by omega), hn]
    exact hv k (by omega)
theorem spec_ss_k (k : Nat) (hk : 160000 ≤ k) : ∃ v, spec_seTwoTwo.f k (m : Int) (aI ms) = some v ∧ (v = true ↔ HasFar m ms) := by
  have lm : ((aI ms).length : Int) = (m : Int) := by simp [hl]
  have s2 : ∀ (a b c q : Nat), a < m → b < m → q < 10 → c < m → Step (fun k c => spec_seTwoTwo.l2 k (a : Int) (b : Int) (c : Int) (aI (elemsTo (ms.getD a 0) m)) ((elemsTo (ms.getD a 0) m).length : Int) (q : Int) (m : Int) (aI ms)) (ss2 m ms a b) 155 c := by
    intro a b c q ha hB hq hc
    have hle := elemsTo_length (ms.getD c 0) m
    have a1 := getD_lt (Nat.two_pow_pos m) hb c
    have := search2 (F := fun k c => spec_seTwoTwo.l2 k (a : Int) (b : Int) (c : Int) (aI (elemsTo (ms.getD a 0) m)) ((elemsTo (ms.getD a 0) m).length : Int) (q : Int) (m : Int) (aI ms)) (GO := ss2 m ms a b) (i := c) 12 (spec_ss_l3 m hm ms hl hb a b c q ha hB hc hq) rfl
      (fun k hk => by
        show spec_seTwoTwo.l2 (k + 1) _ _ _ _ _ _ _ _ = _
        rw [spec_seTwoTwo.l2, if_pos (by omega), if_pos (by omega), if_pos (by omega), rd_map, orList_k _ m a1 (by omega) k (by omega)]
        simp only [Option.bind_some, List.length_map, Int.natCast_zero]) (fun k => by
        show spec_seTwoTwo.l3 (k + 1) _ _ _ _ _ _ _ _ _ _ _ = _
        rw [spec_seTwoTwo.l3, if_neg (by omega), wrap_ok (by omega) (by omega), nsucc])
    exact this.up (by omega)
  have s1 : ∀ (a q : Nat), a < m → q < (elemsTo (ms.getD a 0) m).length → Step (fun k q => spec_seTwoTwo.l1 k (a : Int) (aI (elemsTo (ms.getD a 0) m)) ((elemsTo (ms.getD a 0) m).length : Int) (q : Int) (m : Int) (aI ms)) (ss1 m ms a) 1565 q := by
    intro a q ha hq
    have lE : ((aI (elemsTo (ms.getD a 0) m)).length : Int) = ((elemsTo (ms.getD a 0) m).length : Int) := by simp
    have hj := elems_lt2 (ms.getD a 0) m q hq
    have hle := elemsTo_length (ms.getD a 0) m
    have := search2 (F := fun k q => spec_seTwoTwo.l1 k (a : Int) (aI (elemsTo (ms.getD a 0) m)) ((elemsTo (ms.getD a 0) m).length : Int) (q : Int) (m : Int) (aI ms)) (GO := ss1 m ms a) (i := q) 0 (fun c hc => s2 a _ c q ha hj (by omega) hc) rfl
      (fun k _ => by
        show spec_seTwoTwo.l1 (k + 1) _ _ _ _ _ _ = _
        rw [spec_seTwoTwo.l1, if_pos (by omega), if_pos (by omega), if_pos (by omega), rd_map, Int.natCast_zero]) (fun k => by
        show spec_seTwoTwo.l2 (k + 1) _ _ _ _ _ _ _ _ = _
        rw [spec_seTwoTwo.l2, if_neg (by omega), wrap_ok (by omega) (by omega), nsucc])
    exact this.up (by omega)
  have s0 : ∀ a, a < m → Step (fun k a => spec_seTwoTwo.l0 k (a : Int) (m : Int) (aI ms)) (ss0 m ms) 15680 a := by
    intro a ha
    have hle := elemsTo_length (ms.getD a 0) m
    have a1 := getD_lt (Nat.two_pow_pos m) hb a
    have := search2 (F := fun k a => spec_seTwoTwo.l0 k (a : Int) (m : Int) (aI ms)) (GO := ss0 m ms) (i := a) 12 (fun q hq => s1 a q ha hq) rfl
      (fun k hk => by
        show spec_seTwoTwo.l0 (k + 1) _ _ _ = _
        rw [spec_seTwoTwo.l0, if_pos (by omega), if_pos (by omega), if_pos (by omega), rd_map, orList_k _ m a1 (by omega) k (by omega)]
        simp only [Option.bind_some, List.length_map, Int.natCast_zero]) (fun k => by
        show spec_seTwoTwo.l1 (k + 1) _ _ _ _ _ _ = _
        rw [spec_seTwoTwo.l1, if_neg (by omega), wrap_ok (by omega) (by omega), nsucc])
    exact this.up (by omega)
  have := search0 (F := fun k a => spec_seTwoTwo.l0 k (a : Int) (m : Int) (aI ms)) s0 false (fun k => by
    show spec_seTwoTwo.l0 (k + 1) _ _ _ = _
    rw [spec_seTwoTwo.l0, if_neg (by omega)]) k (by omega)
  have this' : spec_seTwoTwo.f k (m : Int) (aI ms) = _ := this
  rw [this']
  cases h : (List.range' 0 m).findSome? (ss0 m ms) with
  | none => exact ⟨_, rfl, by simpa using (ss0_none m ms).1 h⟩
  | some v =>
    by_cases e : HasFar m ms
    · exact ⟨_, rfl, by rw [ss_val m ms v h]; simpa using e⟩
    · rw [(ss0_none m ms).2 e] at h; cases h
end
def isOrd (m : Nat) (ms : List Nat) : Bool := (List.range' 0 m).all (ordRow m ms)
theorem near_iff (m : Nat) (ms : List Nat) (i j : Nat) : (nearN m ms i).testBit j = true ↔ j < m ∧ tb ms i j = false ∧ tb ms j i = false ∧ j ≠ i := by
  rw [nearN_bit]
  simp only [Bool.and_eq_true, decide_eq_true_eq, Bool.not_eq_true']
  constructor
  · rintro ⟨h1, ⟨h2, h3⟩, h4⟩; exact ⟨h1, h2, h3, h4⟩
  · rintro ⟨h1, h2, h3, h4⟩; exact ⟨h1, ⟨h2, h3⟩, h4⟩
/-- Two chains that are apart are the same as two that refuse each other's ends. -/
theorem far_four (m : Nat) (ms : List Nat) (h2 : ms.length = m) (h3 : ∀ x ∈ ms, x < 2 ^ m) (ho : isOrd m ms = true) : HasFar m ms ↔ HasFour m ms := by
  obtain ⟨hi, ht⟩ := order_rows m ms h2 h3 ho
  constructor
  · rintro ⟨a, b, c, d, ha, hb, hc, hd, hab, hcd, h4, h5⟩
    rw [near_iff] at h4 h5
    exact ⟨a, b, c, d, ha, hb, hc, hd, hab, hcd, h5.2.1, h4.2.1⟩
  · rintro ⟨a, b, c, d, ha, hb, hc, hd, hab, hcd, hcb, had⟩
    refine ⟨a, b, c, d, ha, hb, hc, hd, hab, hcd, (near_iff m ms a d).2 ⟨hd, had, ?_, ?_⟩, (near_iff m ms c b).2 ⟨hb, hcb, ?_, ?_⟩⟩
    · cases h : tb ms d a with
      | false => rfl
      | true => rw [show tb ms c b = true from ht c a (ht c d hcd a h) b hab] at hcb; cases hcb
    · rintro rfl
      rw [show tb ms c b = true from ht c d hcd b hab] at hcb; cases hcb
    · cases h : tb ms b c with
      | false => rfl
      | true => rw [show tb ms a d = true from ht a c (ht a b hab c h) d hcd] at had; cases had
    · rintro rfl
      rw [show tb ms a d = true from ht a b hab d hcd] at had; cases had
open Classical in
/-- Whether an order is of a kind. -/
noncomputable def kindB (m : Nat) (ms : List Nat) (kd : Nat) : Bool :=
  isOrd m ms && (match kd with
    | 0 => !decide (HasTwo m ms)
    | 1 => !decide (HasFour m ms) && !decide (HasThree m ms)
    | 2 => !decide (HasFour m ms)
    | _ => true)
theorem nil_iff {o : Option (List Int)} {p : Prop} (h : o = none ↔ ¬ p) (hv : ∀ v, o = some v → v ≠ []) : o.getD [] = [] ↔ ¬ p := by
  rw [← h]
  cases o with
  | none => simp
  | some v => simpa using hv v rfl
theorem two0_ne (m : Nat) (ms : List Nat) (v : List Int) (h : (List.range' 0 m).findSome? (two0L m ms) = some v) : v ≠ [] := by
  obtain ⟨a, _, h⟩ := fs_some _ _ _ h
  obtain ⟨q, _, h⟩ := fs_some _ _ _ h
  unfold two1L at h
  cases h1 : two1 m ms a q with
  | none => rw [h1] at h; cases h
  | some b => rw [h1] at h; simp only [Option.map_some, Option.some.injEq] at h; rw [← h]; simp
theorem thr0_ne (m : Nat) (ms : List Nat) (v : List Int) (h : (List.range' 0 m).findSome? (thr0 m ms) = some v) : v ≠ [] := by
  obtain ⟨a, _, h⟩ := fs_some _ _ _ h
  obtain ⟨q, _, h⟩ := fs_some _ _ _ h
  obtain ⟨r, _, h⟩ := fs_some _ _ _ h
  unfold thr2 at h
  split at h
  · cases h
  · simp only [Option.some.injEq] at h; rw [← h]; simp
theorem qq0_ne (m : Nat) (ms : List Nat) (v : List Int) (h : (List.range' 0 m).findSome? (qq0 m ms) = some v) : v ≠ [] := by
  obtain ⟨a, _, h⟩ := fs_some _ _ _ h
  obtain ⟨b, _, h⟩ := fs_some _ _ _ h
  obtain ⟨c, _, h⟩ := fs_some _ _ _ h
  obtain ⟨d, _, h⟩ := fs_some _ _ _ h
  unfold qq3 at h
  split at h
  · simp only [Option.some.injEq] at h; rw [← h]; simp
  · cases h
section
variable (m : Nat) (hm : m ≤ 10) (ms : List Nat) (hl : ms.length = m) (hb : ∀ x ∈ ms, x < 2 ^ m)
include hm hl hb
theorem aI_rel : isRel (m : Int) (aI ms) = true := (isRel_iff _ _).2 ⟨m, ms, rfl, rfl, hm, hl, hb⟩
theorem impl_ord_k (k : Nat) (hk : 400 < k) : impl_IsOrder.f k (m : Int) (aI ms) = some (isOrd m ms) := by
  have lm : ((aI ms).length : Int) = (m : Int) := by simp [hl]
  have lm2 : (aI ms).length = m := by simp [hl]
  unfold impl_IsOrder.f
  rw [IsRelation_k _ _ (by omega) k (by omega), aI_rel m hm ms hl hb, lm]
  exact impl_IsOrder_l0 m hm ms hl hb m k 0 (by omega) (by omega)
theorem spec_ord_k (k : Nat) (hk : 400 < k) : spec_orGood.f k (m : Int) (aI ms) = some (isOrd m ms) := by
  have lm : ((aI ms).length : Int) = (m : Int) := by simp [hl]
  have lm2 : (aI ms).length = m := by simp [hl]
  unfold spec_orGood.f
  rw [orRelation_k _ _ (by omega) k (by omega), aI_rel m hm ms hl hb, lm]
  exact spec_orGood_l0 m hm ms hl hb m k 0 (by omega) (by omega)
theorem impl_kind_k (kd : Nat) (k : Nat) (hk : 160000 ≤ k) : impl_isKind.f k (m : Int) (aI ms) (kd : Int) = some (kindB m ms kd) := by
  have ho := impl_ord_k m hm ms hl hb k (by omega)
  have h1 := impl_two_k m hm ms hl hb k (by omega)
  have h2 := impl_thr_k m hm ms hl hb k (by omega)
  have h3 := impl_qq_k m hm ms hl hb k (by omega)
  have n1 := nil_iff (two0_none m ms) (two0_ne m ms)
  have n2 := nil_iff (thr0_none m ms) (thr0_ne m ms)
  have n3 := nil_iff (qq0_none m ms) (qq0_ne m ms)
  unfold impl_isKind.f impl_isSemi.f impl_isInterval.f
  rw [ho, h1, h2, h3]
  generalize (((List.range' 0 m).findSome? (two0L m ms)).getD []) = L1 at n1 ⊢
  generalize (((List.range' 0 m).findSome? (thr0 m ms)).getD []) = L2 at n2 ⊢
  generalize (((List.range' 0 m).findSome? (qq0 m ms)).getD []) = L3 at n3 ⊢
  unfold kindB
  match kd with
  | 0 => cases isOrd m ms <;> by_cases e : HasTwo m ms <;> simp [e, n1]
  | 1 => cases isOrd m ms <;> by_cases e : HasFour m ms <;> by_cases e2 : HasThree m ms <;> simp [e, e2, n2, n3]
  | 2 => cases isOrd m ms <;> by_cases e : HasFour m ms <;> simp [e, n3]
  | n + 3 => rw [if_neg (by omega), if_neg (by omega), if_neg (by omega)]; simp
theorem spec_kind_k (kd : Nat) (k : Nat) (hk : 160000 ≤ k) : spec_cfKind.f k (m : Int) (aI ms) (kd : Int) = some (kindB m ms kd) := by
  have ho := spec_ord_k m hm ms hl hb
  obtain ⟨v, h3, n3⟩ := spec_ss_k m hm ms hl hb k hk
  unfold spec_cfKind.f spec_weGood.f spec_seGood.f
  unfold kindB
  cases hg : isOrd m ms with
  | false =>
    rw [hg] at ho
    unfold spec_TwoOneOf.f spec_ThreeOneOf.f
    rw [ho k (by omega)]
    simp
  | true =>
    rw [hg] at ho
    rw [far_four m ms hl hb hg] at n3
    obtain ⟨r1, b1, e1, n1⟩ := spec_two_k m hm ms hl hb ho k (by omega)
    obtain ⟨r2, b2, e2, n2⟩ := spec_thr_k m hm ms hl hb ho k (by omega)
    rw [ho k (by omega), h3, e1, e2]
    simp only [Option.bind_some, if_true, Bool.true_and]
    match kd with
    | 0 => cases b1 <;> simp_all
    | 1 => cases b2 <;> cases v <;> simp_all
    | 2 => cases v <;> simp_all
    | n + 3 =>
      rw [if_neg (by omega), if_neg (by omega), if_neg (by omega)]
      rfl
end

/-! All orders of a kind, in order: what the program's and the reference's lists come to. -/
abbrev oS (n : Nat) (ms : List Nat) : S26 := ⟨(n : Int), aI ms⟩
noncomputable def grow (n kd : Nat) : Nat → List Nat → List (List Nat)
  | 0, ab => if kindB n ab kd = true then [ab] else []
  | d + 1, ab => (List.range (2 ^ n)).flatMap fun s => if s.testBit ab.length = true then [] else grow n kd d (ab ++ [s])
theorem flat_len {α β : Type} (f : α → List β) (B : Nat) : ∀ (l : List α), (∀ x ∈ l, (f x).length ≤ B) → (l.flatMap f).length ≤ l.length * B
  | [], _ => by simp
  | x :: l, h => by
    rw [List.flatMap_cons, List.length_append, List.length_cons, Nat.add_mul, Nat.one_mul]
    have h1 := h x (by simp)
    have h2 := flat_len f B l (fun y hy => h y (by simp [hy]))
    omega
theorem grow_len (n kd : Nat) (hn : n ≤ 4) : ∀ (d : Nat) (ab : List Nat), (grow n kd d ab).length ≤ 16 ^ d
  | 0, ab => by unfold grow; split <;> simp
  | d + 1, ab => by
    unfold grow
    have h16 : 2 ^ n ≤ 2 ^ 4 := Nat.pow_le_pow_right (by omega) hn
    refine Nat.le_trans (flat_len _ (16 ^ d) _ (fun s _ => ?_)) ?_
    · split
      · simp
      · exact grow_len n kd hn d _
    · rw [List.length_range, Nat.pow_succ, Nat.mul_comm (16 ^ d)]
      exact Nat.mul_le_mul_right _ h16
theorem pow16 (d : Nat) (h : d ≤ 4) : 16 ^ d ≤ 65536 := Nat.le_trans (Nat.pow_le_pow_right (by omega) h) (by decide)
theorem bit_off (x c : Nat) (hx : x < 2 ^ 60) (hc : c < 60) : (Go.bits .and .i64 (shr .i64 (x : Int) (c : Int)) 1 = 0) ↔ x.testBit c = false := by
  have h := bit_and x c (Nat.lt_of_lt_of_le hx (by decide)) (by omega)
  have h1 : Go.bits .and .i64 (shr .i64 (x : Int) (c : Int)) 1 = (((x / 2 ^ c) &&& 1 : Nat) : Int) := by
    rw [shr_nat x c (by omega)]
    exact and_nat (x / 2 ^ c) 1 (Nat.lt_of_le_of_lt (Nat.div_le_self _ _) (Nat.lt_of_lt_of_le hx (by decide))) (by decide)
  have h2 : (x / 2 ^ c) &&& 1 < 2 := Nat.lt_of_le_of_lt Nat.and_le_right (by decide)
  rw [h1] at h ⊢
  cases hb : x.testBit c
  · rw [hb] at h
    have : ¬ ((((x / 2 ^ c) &&& 1 : Nat) : Int) = 1) := by simpa using h
    constructor
    · intro _; rfl
    · intro _; omega
  · rw [hb] at h
    have : (((x / 2 ^ c) &&& 1 : Nat) : Int) = 1 := by simpa using h
    constructor
    · intro h0; omega
    · intro h0; cases h0
theorem aI_app (ab : List Nat) (s : Nat) : aI ab ++ [(s : Int)] = aI (ab ++ [s]) := by simp
theorem flat_succ {β : Type} (g : Nat → List β) (s : Nat) : (List.range (s + 1)).flatMap g = (List.range s).flatMap g ++ g s := by
  rw [List.range_succ, List.flatMap_append]
  simp
theorem rng_len (n kd : Nat) (hn : n ≤ 4) (d : Nat) (hd : d ≤ 3) (ab : List Nat) (s : Nat) (hs : s ≤ 2 ^ n) :
    (((List.range s).flatMap fun s => if s.testBit ab.length = true then [] else grow n kd d (ab ++ [s])).map (oS n)).length ≤ 1048576 := by
  have h16 : 2 ^ n ≤ 2 ^ 4 := Nat.pow_le_pow_right (by omega) hn
  rw [List.length_map]
  have h1 := flat_len (fun s => if s.testBit ab.length = true then [] else grow n kd d (ab ++ [s])) (16 ^ d) (List.range s) (fun s _ => by
    show (if s.testBit ab.length = true then [] else grow n kd d (ab ++ [s])).length ≤ _
    split
    · simp
    · exact grow_len n kd hn d _)
  rw [List.length_range] at h1
  have h2 := pow16 d (by omega)
  have h3 : s * 16 ^ d ≤ 16 * 65536 := Nat.mul_le_mul (by omega) h2
  omega
theorem spec_list (n kd : Nat) (hn : n ≤ 4) : ∀ (d : Nat) (ab : List Nat), ab.length + d = n → (∀ x ∈ ab, x < 2 ^ n) → ∀ k, 160010 + d * 40 ≤ k →
    spec_cfOrders.f k (n : Int) (aI ab) (kd : Int) = some ((grow n kd d ab).map (oS n)) := by
  have h16 : 2 ^ n ≤ 2 ^ 4 := Nat.pow_le_pow_right (by omega) hn
  intro d
  induction d with
  | zero =>
    intro ab hab hb k hk
    obtain ⟨k, rfl⟩ : ∃ q, k = q + 1 := ⟨k - 1, by omega⟩
    have la : (aI ab).length = n := by simp; omega
    rw [spec_cfOrders.f, if_pos (by omega), l1Own_some (aI ab) (by omega)]
    simp only [Option.bind_some]
    rw [spec_kind_k n (by omega) ab (by omega) hb kd k (by omega)]
    simp only [Option.bind_some]
    unfold grow
    cases kindB n ab kd <;> simp
  | succ d ih =>
    intro ab hab hb k hk
    obtain ⟨k, rfl⟩ : ∃ q, k = q + 1 := ⟨k - 1, by omega⟩
    have la : (aI ab).length = ab.length := by simp
    have main : ∀ (e s k : Nat), s + e = 2 ^ n → 160020 + d * 40 + e ≤ k →
        spec_cfOrders.l0 k (n : Int) (aI ab) (kd : Int) (((List.range s).flatMap fun s => if s.testBit ab.length = true then [] else grow n kd d (ab ++ [s])).map (oS n)) (s : Int) = some (((List.range (2 ^ n)).flatMap fun s => if s.testBit ab.length = true then [] else grow n kd d (ab ++ [s])).map (oS n)) := by
      intro e
      induction e with
      | zero =>
        intro s k hs hk
        obtain ⟨k, rfl⟩ : ∃ q, k = q + 1 := ⟨k - 1, by omega⟩
        have : s = 2 ^ n := by omega
        rw [spec_cfOrders.l0, if_pos (by omega), shl_one n (by omega), if_neg (by omega), this]
      | succ e ihe =>
        intro s k hs hk
        obtain ⟨k, rfl⟩ : ∃ q, k = q + 1 := ⟨k - 1, by omega⟩
        have hq := ihe (s + 1) k (by omega) (by omega)
        have hln := rng_len n kd hn d (by omega) ab s (by omega)
        have hg := grow_len n kd hn d (ab ++ [s])
        have hp := pow16 d (by omega)
        rw [spec_cfOrders.l0, if_pos (by omega), shl_one n (by omega), if_pos (by omega), la, orHas_k s ab.length (by omega)]
        simp only [Option.bind_some]
        rw [flat_succ] at hq
        cases hbit : s.testBit ab.length
        · rw [if_neg (by simp), l1Own_some (aI ab) (by omega)]
          simp only [Option.bind_some]
          rw [if_pos (by omega), aI_app, ih (ab ++ [s]) (by rw [List.length_append, List.length_singleton]; omega) (by
            intro x hx
            rcases List.mem_append.1 hx with h | h
            · exact hb x h
            · rw [List.mem_singleton.1 h]; omega) k (by omega)]
          simp only [Option.bind_some]
          have hgl : ((grow n kd d (ab ++ [s])).map (oS n)).length ≤ 65536 := by rw [List.length_map]; omega
          rw [if_pos (by omega), wrap_ok (by omega) (by omega), nsucc]
          simp only [hbit, Bool.false_eq_true, if_false, List.map_append] at hq
          exact hq
        · rw [if_pos rfl, wrap_ok (by omega) (by omega), nsucc]
          simp only [hbit, if_true, List.append_nil] at hq
          exact hq
    have := main (2 ^ n) 0 k (by omega) (by omega)
    rw [spec_cfOrders.f, if_neg (by omega)]
    unfold grow
    exact this
theorem impl_list (n kd : Nat) (hn : n ≤ 4) : ∀ (d : Nat) (ab : List Nat), ab.length + d = n → (∀ x ∈ ab, x < 2 ^ n) → ∀ (out : List S26), out.length ≤ 1000000000 - 16 ^ d → ∀ k, 160010 + d * 40 ≤ k →
    impl_ordersOf_1.f k (n : Int) (kd : Int) (aI ab) out = some (out ++ (grow n kd d ab).map (oS n)) := by
  have h16 : 2 ^ n ≤ 2 ^ 4 := Nat.pow_le_pow_right (by omega) hn
  intro d
  induction d with
  | zero =>
    intro ab hab hb out ho k hk
    obtain ⟨k, rfl⟩ : ∃ q, k = q + 1 := ⟨k - 1, by omega⟩
    have la : (aI ab).length = n := by simp; omega
    have hc : slices_Clone_int_int.f (aI ab) = some (aI ab) := by
      unfold slices_Clone_int_int.f
      rw [if_pos (by omega)]
    rw [impl_ordersOf_1.f, if_pos (by omega), hc]
    simp only [Option.bind_some]
    rw [impl_kind_k n (by omega) ab (by omega) hb kd k (by omega)]
    simp only [Option.bind_some]
    unfold grow
    cases kindB n ab kd
    · simp
    · rw [if_pos rfl, if_pos (by omega), if_pos rfl]
      rfl
  | succ d ih =>
    intro ab hab hb out ho k hk
    obtain ⟨k, rfl⟩ : ∃ q, k = q + 1 := ⟨k - 1, by omega⟩
    have la : (aI ab).length = ab.length := by simp
    have hp := pow16 d (by omega)
    have hp2 : 16 ^ (d + 1) = 16 ^ d * 16 := Nat.pow_succ 16 d
    have hpos : 0 < 16 ^ d := Nat.pow_pos (by omega)
    have main : ∀ (e s k : Nat), s + e = 2 ^ n → 160020 + d * 40 + e ≤ k →
        impl_ordersOf_1.l0 k (n : Int) (kd : Int) (aI ab) (out ++ ((List.range s).flatMap fun s => if s.testBit ab.length = true then [] else grow n kd d (ab ++ [s])).map (oS n)) (shl .i64 1 (n : Int)) (s : Int) = some (out ++ ((List.range (2 ^ n)).flatMap fun s => if s.testBit ab.length = true then [] else grow n kd d (ab ++ [s])).map (oS n)) := by
      intro e
      induction e with
      | zero =>
        intro s k hs hk
        obtain ⟨k, rfl⟩ : ∃ q, k = q + 1 := ⟨k - 1, by omega⟩
        have : s = 2 ^ n := by omega
        rw [impl_ordersOf_1.l0, shl_one n (by omega), if_neg (by omega), this]
      | succ e ihe =>
        intro s k hs hk
        obtain ⟨k, rfl⟩ : ∃ q, k = q + 1 := ⟨k - 1, by omega⟩
        have hq := ihe (s + 1) k (by omega) (by omega)
        have hln : (((List.range s).flatMap fun s => if s.testBit ab.length = true then [] else grow n kd d (ab ++ [s])).map (oS n)).length ≤ s * 16 ^ d := by
          rw [List.length_map]
          have h1 := flat_len (fun s => if s.testBit ab.length = true then [] else grow n kd d (ab ++ [s])) (16 ^ d) (List.range s) (fun s _ => by
            show (if s.testBit ab.length = true then [] else grow n kd d (ab ++ [s])).length ≤ _
            split
            · simp
            · exact grow_len n kd hn d _)
          rwa [List.length_range] at h1
        have hs15 : s * 16 ^ d ≤ 15 * 16 ^ d := Nat.mul_le_mul_right _ (by omega)
        rw [impl_ordersOf_1.l0, if_pos (by rw [shl_one n (by omega)]; omega), la]
        rw [flat_succ] at hq
        cases hbit : s.testBit ab.length
        · rw [if_pos ((bit_off s ab.length (by omega) (by omega)).2 hbit), if_pos (by omega), aI_app, ih (ab ++ [s]) (by rw [List.length_append, List.length_singleton]; omega) (by
            intro x hx
            rcases List.mem_append.1 hx with h | h
            · exact hb x h
            · rw [List.mem_singleton.1 h]; omega) _ (by rw [List.length_append]; omega) k (by omega)]
          simp only [Option.bind_some]
          rw [wrap_ok (by omega) (by omega), nsucc]
          simp only [hbit, Bool.false_eq_true, if_false, List.map_append] at hq
          rw [List.append_assoc]
          exact hq
        · rw [if_neg (by rw [bit_off s ab.length (by omega) (by omega), hbit]; simp), wrap_ok (by omega) (by omega), nsucc]
          simp only [hbit, if_true, List.append_nil] at hq
          exact hq
    have := main (2 ^ n) 0 k (by omega) (by omega)
    rw [impl_ordersOf_1.f, if_neg (by omega), if_pos (by omega)]
    unfold grow
    simpa using this
noncomputable def ordL (n kd : Nat) : List (List Nat) := grow n kd n []
theorem spec_list_k (n kd : Nat) (hn : n ≤ 4) (k : Nat) (hk : 160200 ≤ k) : spec_cfOrders.f k (n : Int) [] (kd : Int) = some ((ordL n kd).map (oS n)) :=
  spec_list n kd hn n [] (by simp) (by simp) k (by omega)
theorem impl_list_k (n kd : Nat) (hn : n ≤ 4) (k : Nat) (hk : 160200 ≤ k) : impl_ordersOf.f k (n : Int) (kd : Int) = some ((ordL n kd).map (oS n)) := by
  have h := impl_list n kd hn n [] (by simp) (by simp) [] (by have := pow16 n hn; simp) k (by omega)
  unfold impl_ordersOf.f ordL
  simpa using h

theorem count_all : ∀ x, x < 1024 → impl_count.f ((x : Nat) : Int) = some (((elemsTo x 10).length : Nat) : Int) := by decide +kernel
/-- How many elements are in just one of two rows, for the rows before i. -/
def apartTo (ms ps : List Nat) : Nat → Nat
  | 0 => 0
  | i + 1 => apartTo ms ps i + (elemsTo (ms.getD i 0 ^^^ ps.getD i 0) 10).length
theorem apartTo_le (ms ps : List Nat) (i : Nat) : apartTo ms ps i ≤ 10 * i := by
  induction i with
  | zero => simp [apartTo]
  | succ i ih =>
    have := elemsTo_length (ms.getD i 0 ^^^ ps.getD i 0) 10
    rw [apartTo]
    omega
theorem apart_l0 (n : Int) (ms ps : List Nat) (he : ps.length = ms.length) (hl : ms.length ≤ 10) (h1 : ∀ x ∈ ms, x < 1024) (h2 : ∀ x ∈ ps, x < 1024) : ∀ (d k i : Nat), i + d = ms.length → d + 20 < k →
    impl_apart.l0 k (apartTo ms ps i : Int) (ms.map (fun (x : Nat) => (x : Int))) (ms.length : Int) (i : Int) n (ps.map (fun (x : Nat) => (x : Int))) = some (apartTo ms ps ms.length : Int) ∧
    spec_cfApart.l0 k (apartTo ms ps i : Int) (ms.map (fun (x : Nat) => (x : Int))) (ms.length : Int) (i : Int) n (ps.map (fun (x : Nat) => (x : Int))) = some (apartTo ms ps ms.length : Int) := by
  intro d
  induction d with
  | zero =>
    intro k i h hk
    obtain ⟨k, rfl⟩ : ∃ m, k = m + 1 := ⟨k - 1, by omega⟩
    simp only [impl_apart.l0, spec_cfApart.l0]
    have e : i = ms.length := by omega
    rw [if_neg (by omega), if_neg (by omega), ← e]
    exact ⟨rfl, rfl⟩
  | succ d ih =>
    intro k i h hk
    obtain ⟨k, rfl⟩ : ∃ m, k = m + 1 := ⟨k - 1, by omega⟩
    simp only [impl_apart.l0, spec_cfApart.l0]
    have a1 := getD_lt (b := 1024) (by omega) h1 i
    have a2 := getD_lt (b := 1024) (by omega) h2 i
    have ax : ms.getD i 0 ^^^ ps.getD i 0 < 2 ^ 10 := Nat.xor_lt_two_pow a1 a2
    have e : ((i : Int) + 1) = ((i + 1 : Nat) : Int) := by omega
    have l1 : ((ms.map (fun (x : Nat) => (x : Int))).length : Int) = (ms.length : Int) := by simp
    have l2 : ((ps.map (fun (x : Nat) => (x : Int))).length : Int) = (ms.length : Int) := by simp [he]
    have b1 := apartTo_le ms ps i
    have b2 := elemsTo_length (ms.getD i 0 ^^^ ps.getD i 0) 10
    have en : (apartTo ms ps i : Int) + ((elemsTo (ms.getD i 0 ^^^ ps.getD i 0) 10).length : Int) = ((apartTo ms ps (i + 1) : Nat) : Int) := by
      rw [apartTo]
      omega
    have sm : spec_seMany.f k ((ms.getD i 0 ^^^ ps.getD i 0 : Nat) : Int) = some (((elemsTo (ms.getD i 0 ^^^ ps.getD i 0) 10).length : Nat) : Int) := by
      unfold spec_seMany.f
      rw [orList_k _ 10 ax (by omega) k (by omega)]
      simp
    obtain ⟨g1, g2⟩ := ih k (i + 1) (by omega) (by omega)
    rw [if_pos (by omega), if_pos (by omega), if_pos (by omega), if_pos (by omega), if_pos (by omega), if_pos (by omega), if_pos (by omega), if_pos (by omega), rd_map, rd_map, xor_nat _ _ (by omega) (by omega), count_all _ ax, sm]
    simp only [Option.bind_some]
    rw [wrap_ok (by omega) (by omega), wrap_ok (by omega) (by omega), e, en]
    exact ⟨g1, g2⟩

/-! The nearest of a list of orders. -/
theorem apart_k (n : Nat) (hn : n ≤ 10) (ms ps : List Nat) (h1 : ms.length = n) (h2 : ps.length = n) (b1 : ∀ x ∈ ms, x < 2 ^ n) (b2 : ∀ x ∈ ps, x < 2 ^ n) (a a' : Int) (k : Nat) (hk : 40 < k) :
    impl_apart.f k a (aI ms) a' (aI ps) = some ((apartTo ms ps n : Nat) : Int) ∧ spec_cfApart.f k a (aI ms) a' (aI ps) = some ((apartTo ms ps n : Nat) : Int) := by
  have hq : 2 ^ n ≤ 2 ^ 10 := Nat.pow_le_pow_right (by omega) hn
  have := apart_l0 a' ms ps (by omega) (by omega) (fun x hx => Nat.lt_of_lt_of_le (b1 x hx) hq) (fun x hx => Nat.lt_of_lt_of_le (b2 x hx) hq) ms.length k 0 (by omega) (by omega)
  have lm : ((aI ms).length : Int) = (ms.length : Int) := by simp
  unfold impl_apart.f spec_cfApart.f
  rw [lm, ← h1]
  exact this
/-- The first of the least apart, and how far it is. -/
def best (n : Nat) (ms : List Nat) : List (List Nat) → Option (List Nat × Nat) → Option (List Nat × Nat)
  | [], b => b
  | p :: L, none => best n ms L (some (p, apartTo ms p n))
  | p :: L, some (q, d) => best n ms L (if apartTo ms p n < d then some (p, apartTo ms p n) else some (q, d))
def encB (n : Nat) : Option (List Nat × Nat) → Int × List Int × Int
  | none => (0, [], -1)
  | some (q, d) => ((n : Int), aI q, (d : Int))
def relN (n : Nat) (p : List Nat) : Prop := p.length = n ∧ ∀ x ∈ p, x < 2 ^ n
theorem rd_oS (n : Nat) (L : List (List Nat)) (i : Nat) (hi : i < L.length) : Enc.rd (L.map (oS n)) (i : Int) = oS n (L.getD i []) := by
  unfold Enc.rd
  simp [List.getD_eq_getElem?_getD, hi]
theorem drop_at (L : List (List Nat)) (i : Nat) (hi : i < L.length) : L.drop i = L.getD i [] :: L.drop (i + 1) := by
  rw [List.drop_eq_getElem_cons hi]
  simp [List.getD_eq_getElem?_getD, hi]
theorem near_l0 (n : Nat) (hn : n ≤ 10) (ms : List Nat) (hm : relN n ms) (L : List (List Nat)) (hL : L.length ≤ 1048576) (hr : ∀ p ∈ L, relN n p) : ∀ (e i : Nat) (b : Option (List Nat × Nat)) (k : Nat), i + e = L.length → e + 50 < k →
    impl_NearestOf.l0 k (encB n b).2.2 (L.map (oS n)) (L.length : Int) (i : Int) (n : Int) (aI ms) (encB n b).1 (encB n b).2.1 = some ((encB n (best n ms (L.drop i) b)).1, (encB n (best n ms (L.drop i) b)).2.1, (encB n (best n ms (L.drop i) b)).2.2, true) ∧
    spec_NearestOf.l0 k (encB n b).2.2 (L.map (oS n)) (L.length : Int) (i : Int) (n : Int) (aI ms) (encB n b).1 (encB n b).2.1 = some ((encB n (best n ms (L.drop i) b)).1, (encB n (best n ms (L.drop i) b)).2.1, (encB n (best n ms (L.drop i) b)).2.2, true) := by
  intro e
  have lL : ((L.map (oS n)).length : Int) = (L.length : Int) := by simp
  induction e with
  | zero =>
    intro i b k hi hk
    obtain ⟨k, rfl⟩ : ∃ q, k = q + 1 := ⟨k - 1, by omega⟩
    have : L.drop i = [] := List.drop_eq_nil_of_le (by omega)
    rw [this, impl_NearestOf.l0, spec_NearestOf.l0, if_neg (by omega), if_neg (by omega)]
    exact ⟨rfl, rfl⟩
  | succ e ih =>
    intro i b k hi hk
    obtain ⟨k, rfl⟩ : ∃ q, k = q + 1 := ⟨k - 1, by omega⟩
    have hp := hr (L.getD i []) (by
      rw [List.getD_eq_getElem?_getD, List.getElem?_eq_getElem (by omega)]
      exact List.getElem_mem _)
    obtain ⟨a1, a2⟩ := apart_k n hn ms (L.getD i []) hm.1 hp.1 hm.2 hp.2 (n : Int) (n : Int) k (by omega)
    rw [drop_at L i (by omega), impl_NearestOf.l0, spec_NearestOf.l0, if_pos (by omega), if_pos (by omega), if_pos (by omega), if_pos (by omega), if_pos (by omega), if_pos (by omega), rd_oS n L i (by omega), a1, a2, wrap_ok (by omega) (by omega), nsucc]
    simp only [Option.bind_some]
    cases b with
    | none =>
      have := ih (i + 1) (some (L.getD i [], apartTo ms (L.getD i []) n)) k (by omega) (by omega)
      rw [show (encB n none).2.2 = -1 from rfl, if_pos (by omega), if_pos (by omega)]
      exact this
    | some qd =>
      obtain ⟨q, d⟩ := qd
      rw [show (encB n (some (q, d))).2.2 = (d : Int) from rfl]
      simp only [if_neg (show ¬ ((d : Nat) : Int) < 0 by omega)]
      by_cases h : apartTo ms (L.getD i []) n < d
      · have := ih (i + 1) (some (L.getD i [], apartTo ms (L.getD i []) n)) k (by omega) (by omega)
        simp only [if_pos (show ((apartTo ms (L.getD i []) n : Nat) : Int) < (d : Int) by omega)]
        rw [best, if_pos h]
        exact this
      · have := ih (i + 1) (some (q, d)) k (by omega) (by omega)
        simp only [if_neg (show ¬ ((apartTo ms (L.getD i []) n : Nat) : Int) < (d : Int) by omega)]
        rw [best, if_neg h]
        exact this
theorem best_ok (n : Nat) (ms : List Nat) : ∀ (L : List (List Nat)) (b : Option (List Nat × Nat)), (∀ q d, b = some (q, d) → d = apartTo ms q n) → (L ≠ [] ∨ b ≠ none) →
    ∃ q, best n ms L b = some (q, apartTo ms q n) ∧ (q ∈ L ∨ b = some (q, apartTo ms q n)) ∧ (∀ p ∈ L, apartTo ms q n ≤ apartTo ms p n) ∧ (∀ p d, b = some (p, d) → apartTo ms q n ≤ d)
  | [], none, _, h => by simp at h
  | [], some (q, d), hd, _ => by
    have := hd q d rfl
    subst this
    exact ⟨q, rfl, .inr rfl, by simp, by intro p d h; cases h; exact Nat.le_refl _⟩
  | p :: L, none, _, _ => by
    obtain ⟨q, h1, h2, h3, h4⟩ := best_ok n ms L (some (p, apartTo ms p n)) (by intro q d h; cases h; rfl) (.inr (by simp))
    refine ⟨q, h1, .inl ?_, ?_, by intro p d h; cases h⟩
    · rcases h2 with h2 | h2
      · exact List.mem_cons_of_mem _ h2
      · cases h2; simp
    · intro p' hp'
      rcases List.mem_cons.1 hp' with rfl | hp'
      · exact h4 _ _ rfl
      · exact h3 p' hp'
  | p :: L, some (r, d), hd, _ => by
    have hdr := hd r d rfl
    by_cases h : apartTo ms p n < d
    · obtain ⟨q, h1, h2, h3, h4⟩ := best_ok n ms L (some (p, apartTo ms p n)) (by intro q d h; cases h; rfl) (.inr (by simp))
      refine ⟨q, by rw [best, if_pos h]; exact h1, .inl ?_, ?_, ?_⟩
      · rcases h2 with h2 | h2
        · exact List.mem_cons_of_mem _ h2
        · cases h2; simp
      · intro p' hp'
        rcases List.mem_cons.1 hp' with rfl | hp'
        · exact h4 _ _ rfl
        · exact h3 p' hp'
      · intro p' d' e
        cases e
        have := h4 _ _ rfl
        omega
    · obtain ⟨q, h1, h2, h3, h4⟩ := best_ok n ms L (some (r, d)) hd (.inr (by simp))
      have h5 := h4 _ _ rfl
      refine ⟨q, by rw [best, if_neg h]; exact h1, ?_, ?_, ?_⟩
      · rcases h2 with h2 | h2
        · exact .inl (List.mem_cons_of_mem _ h2)
        · exact .inr h2
      · intro p' hp'
        rcases List.mem_cons.1 hp' with rfl | hp'
        · omega
        · exact h3 p' hp'
      · intro p' d' e
        cases e
        exact h5
theorem grow_mem (n kd : Nat) : ∀ (d : Nat) (ab p : List Nat), ab.length + d = n → (p ∈ grow n kd d ab ↔ ∃ t, p = ab ++ t ∧ t.length = d ∧ (∀ x ∈ t, x < 2 ^ n) ∧ (∀ i, i < d → (t.getD i 0).testBit (ab.length + i) = false) ∧ kindB n p kd = true)
  | 0, ab, p, _ => by
    unfold grow
    constructor
    · intro h
      split at h
      · rename_i hk
        rw [List.mem_singleton] at h
        subst h
        exact ⟨[], by simp, rfl, by simp, by intro i hi; omega, hk⟩
      · simp at h
    · rintro ⟨t, h1, h2, _, _, h5⟩
      have : t = [] := List.eq_nil_of_length_eq_zero h2
      subst this
      rw [List.append_nil] at h1
      subst h1
      rw [if_pos h5]
      simp
  | d + 1, ab, p, hab => by
    unfold grow
    rw [List.mem_flatMap]
    constructor
    · rintro ⟨s, hs, hp⟩
      rw [List.mem_range] at hs
      split at hp
      · simp at hp
      · rename_i hbit
        obtain ⟨t, h1, h2, h3, h4, h5⟩ := (grow_mem n kd d (ab ++ [s]) p (by rw [List.length_append, List.length_singleton]; omega)).1 hp
        refine ⟨s :: t, by rw [h1]; simp, by simp [h2], ?_, ?_, h5⟩
        · intro x hx
          rcases List.mem_cons.1 hx with rfl | hx
          · exact hs
          · exact h3 x hx
        · intro i hi
          cases i with
          | zero => simpa using hbit
          | succ i =>
            have := h4 i (by omega)
            rw [List.length_append, List.length_singleton] at this
            rw [List.getD_cons_succ, show ab.length + (i + 1) = ab.length + 1 + i by omega]
            exact this
    · rintro ⟨t, h1, h2, h3, h4, h5⟩
      cases t with
      | nil => simp at h2
      | cons s t =>
        refine ⟨s, List.mem_range.2 (h3 s (by simp)), ?_⟩
        have h0 := h4 0 (by omega)
        rw [List.getD_cons_zero, Nat.add_zero] at h0
        rw [h0, if_neg (by simp)]
        refine (grow_mem n kd d (ab ++ [s]) p (by rw [List.length_append, List.length_singleton]; omega)).2 ⟨t, by rw [h1]; simp, by simpa using h2, fun x hx => h3 x (by simp [hx]), fun i hi => ?_, h5⟩
        have := h4 (i + 1) (by omega)
        rw [List.getD_cons_succ] at this
        rw [List.length_append, List.length_singleton, show ab.length + 1 + i = ab.length + (i + 1) by omega]
        exact this
theorem kind_ord (n : Nat) (p : List Nat) (kd : Nat) (h : kindB n p kd = true) : isOrd n p = true := by
  unfold kindB at h
  rw [Bool.and_eq_true] at h
  exact h.1
theorem mem_ordL (n kd : Nat) (p : List Nat) : p ∈ ordL n kd ↔ relN n p ∧ kindB n p kd = true := by
  unfold ordL
  rw [grow_mem n kd n [] p (by simp)]
  constructor
  · rintro ⟨t, h1, h2, h3, h4, h5⟩
    rw [List.nil_append] at h1
    subst h1
    exact ⟨⟨h2, h3⟩, h5⟩
  · rintro ⟨⟨h1, h2⟩, h3⟩
    refine ⟨p, by simp, h1, h2, fun i _ => ?_, h3⟩
    have := (order_rows n p h1 h2 (kind_ord n p kd h3)).1 i
    simpa using this
theorem ordL_len (n kd : Nat) (hn : n ≤ 4) : (ordL n kd).length ≤ 65536 := Nat.le_trans (grow_len n kd hn n []) (pow16 n hn)

/-! What the law asks of the list and of the nearest. -/
theorem zero_get (n i : Nat) : (List.replicate n 0).getD i 0 = 0 := by
  rw [List.getD_eq_getElem?_getD, List.getElem?_replicate]
  split <;> rfl
theorem zero_tb (n i j : Nat) : tb (List.replicate n 0) i j = false := by
  unfold tb
  rw [zero_get]
  simp
theorem zero_mem (n kd : Nat) : List.replicate n 0 ∈ ordL n kd := by
  rw [mem_ordL]
  refine ⟨⟨List.length_replicate, fun x hx => ?_⟩, ?_⟩
  · rw [List.eq_of_mem_replicate hx]
    exact Nat.two_pow_pos n
  · have ho : isOrd n (List.replicate n 0) = true := by
      unfold isOrd
      rw [List.all_eq_true]
      intro i _
      have e0 : elemsTo 0 n = [] := by
        unfold elemsTo
        rw [List.filter_eq_nil_iff]
        simp
      unfold ordRow
      rw [zero_get, e0]
      simp
    have h2 : ¬ HasTwo n (List.replicate n 0) := by
      rintro ⟨a, b, _, _, h, _⟩
      rw [zero_tb] at h; cases h
    have h3 : ¬ HasThree n (List.replicate n 0) := by
      rintro ⟨a, b, c, _, _, _, h, _⟩
      rw [zero_tb] at h; cases h
    have h4 : ¬ HasFour n (List.replicate n 0) := by
      rintro ⟨a, b, c, d, _, _, _, _, h, _⟩
      rw [zero_tb] at h; cases h
    unfold kindB
    rw [ho]
    match kd with
    | 0 => simp [h2]
    | 1 => simp [h3, h4]
    | 2 => simp [h4]
    | _ + 3 => rfl
theorem tb_lt (n : Nat) (p : List Nat) (h1 : p.length = n) (h2 : ∀ x ∈ p, x < 2 ^ n) (i j : Nat) (h : tb p i j = true) : j < n := by
  have a1 := getD_lt (Nat.two_pow_pos n) h2 i
  by_cases hj : j < n
  · exact hj
  · unfold tb at h
    rw [Nat.testBit_lt_two_pow (Nat.lt_of_lt_of_le a1 (Nat.pow_le_pow_right (by omega) (by omega)))] at h
    cases h
theorem bit_ne {a b j : Nat} (h1 : a.testBit j = true) (h2 : b.testBit j = true) : a &&& b ≠ 0 := by
  intro e
  have : (a &&& b).testBit j = true := by rw [Nat.testBit_and, h1, h2]; rfl
  rw [e] at this
  simp at this
/-- A weak order is a semiorder: two chains of two that are apart lead to one of two with an element beside. -/
theorem four_two (n : Nat) (p : List Nat) (h1 : p.length = n) (h2 : ∀ x ∈ p, x < 2 ^ n) (ho : isOrd n p = true) (h : HasFour n p) : HasTwo n p := by
  obtain ⟨hi, ht⟩ := order_rows n p h1 h2 ho
  obtain ⟨a, b, c, d, ha, hb, hc, hd, hab, hcd, hcb, had⟩ := h
  have hac : tb p a c = false := by
    cases h : tb p a c with
    | false => rfl
    | true => rw [show tb p a d = true from ht a c h d hcd] at had; cases had
  have hca : tb p c a = false := by
    cases h : tb p c a with
    | false => rfl
    | true => rw [show tb p c b = true from ht c a h b hab] at hcb; cases hcb
  have hne : c ≠ a := by
    rintro rfl
    rw [hab] at hcb; cases hcb
  have hbc : tb p b c = false := by
    cases h : tb p b c with
    | false => rfl
    | true => rw [show tb p a c = true from ht a b hab c h] at hac; cases hac
  have hne2 : c ≠ b := by
    rintro rfl
    rw [hab] at hac; cases hac
  exact ⟨a, b, ha, hb, hab, bit_ne ((near_iff n p a c).2 ⟨hc, hac, hca, hne⟩) ((near_iff n p b c).2 ⟨hc, hbc, hcb, hne2⟩)⟩
theorem and_ne {a b : Nat} (h : a &&& b ≠ 0) : a ≠ 0 := by
  rintro rfl
  simp at h
theorem kind_up (n : Nat) (p : List Nat) (h1 : p.length = n) (h2 : ∀ x ∈ p, x < 2 ^ n) (kd : Nat) (h : kindB n p kd = true) : kindB n p (kd + 1) = true := by
  have ho := kind_ord n p kd h
  unfold kindB at h ⊢
  rw [ho, Bool.true_and] at h ⊢
  match kd with
  | 0 =>
    have h2' : ¬ HasTwo n p := by simpa using h
    have h4 : ¬ HasFour n p := fun h => h2' (four_two n p h1 h2 ho h)
    have h3 : ¬ HasThree n p := by
      rintro ⟨a, b, c, ha, hb, _, hab, _, hn⟩
      exact h2' ⟨a, b, ha, hb, hab, and_ne hn⟩
    simp [h3, h4]
  | 1 =>
    simp only [Bool.and_eq_true, Bool.not_eq_true', decide_eq_false_iff_not] at h
    simp [h.1]
  | 2 => rfl
  | _ + 3 => rfl
theorem apart_zero (n : Nat) (ms ps : List Nat) (h1 : relN n ms) (h2 : relN n ps) (hn : n ≤ 10) : apartTo ms ps n = 0 ↔ ps = ms := by
  have hq : 2 ^ n ≤ 2 ^ 10 := Nat.pow_le_pow_right (by omega) hn
  have rows : ∀ i, i ≤ n → (apartTo ms ps i = 0 ↔ ∀ j, j < i → ms.getD j 0 = ps.getD j 0) := by
    intro i
    induction i with
    | zero => intro _; simp [apartTo]
    | succ i ih =>
      intro hi
      have a1 := getD_lt (Nat.two_pow_pos n) h1.2 i
      have a2 := getD_lt (Nat.two_pow_pos n) h2.2 i
      have ax : ms.getD i 0 ^^^ ps.getD i 0 < 2 ^ 10 := Nat.xor_lt_two_pow (by omega) (by omega)
      rw [apartTo]
      have e : (elemsTo (ms.getD i 0 ^^^ ps.getD i 0) 10).length = 0 ↔ ms.getD i 0 = ps.getD i 0 := by
        rw [elems_none _ 10 ax]
        constructor
        · intro h
          apply Nat.eq_of_testBit_eq
          intro j
          have : (ms.getD i 0 ^^^ ps.getD i 0).testBit j = false := by rw [h]; simp
          rw [Nat.testBit_xor] at this
          revert this
          cases (ms.getD i 0).testBit j <;> cases (ps.getD i 0).testBit j <;> simp
        · intro h; rw [h]; simp
      constructor
      · intro h j hj
        by_cases hji : j = i
        · subst hji; exact e.1 (by omega)
        · exact (ih (by omega)).1 (by omega) j (by omega)
      · intro h
        have := (ih (by omega)).2 fun j hj => h j (by omega)
        have := e.2 (h i (by omega))
        omega
  rw [rows n (Nat.le_refl _)]
  have l1 := h1.1
  have l2 := h2.1
  constructor
  · intro h
    apply List.ext_getElem?
    intro i
    by_cases hi : i < n
    · have := h i hi
      rw [List.getD_eq_getElem?_getD, List.getD_eq_getElem?_getD, List.getElem?_eq_getElem (by omega), List.getElem?_eq_getElem (by omega)] at this
      rw [List.getElem?_eq_getElem (by omega), List.getElem?_eq_getElem (by omega)]
      simp only [Option.getD_some] at this
      rw [this]
    · rw [List.getElem?_eq_none (by omega), List.getElem?_eq_none (by omega)]
  · rintro rfl j _
    rfl
/-! the order of the list -/
def lexlt (p q : List Nat) : Prop := ∃ j, j < p.length ∧ j < q.length ∧ (∀ i, i < j → p.getD i 0 = q.getD i 0) ∧ p.getD j 0 < q.getD j 0
theorem pair_flat {α β : Type} (R : β → β → Prop) (S : α → α → Prop) (f : α → List β) (h1 : ∀ x, (f x).Pairwise R) (h2 : ∀ x y, S x y → ∀ a ∈ f x, ∀ b ∈ f y, R a b) : ∀ (l : List α), l.Pairwise S → (l.flatMap f).Pairwise R
  | [], _ => by simp
  | x :: l, h => by
    rw [List.pairwise_cons] at h
    rw [List.flatMap_cons, List.pairwise_append]
    refine ⟨h1 x, pair_flat R S f h1 h2 l h.2, fun a ha b hb => ?_⟩
    obtain ⟨y, hy, hby⟩ := List.mem_flatMap.1 hb
    exact h2 x y (h.1 y hy) a ha b hby
theorem app_get (ab t : List Nat) (i : Nat) (hi : i < ab.length) : (ab ++ t).getD i 0 = ab.getD i 0 := by
  rw [List.getD_eq_getElem?_getD, List.getD_eq_getElem?_getD, List.getElem?_append_left hi]
theorem app_get2 (ab t : List Nat) (s : Nat) : (ab ++ s :: t).getD ab.length 0 = s := by
  rw [List.getD_eq_getElem?_getD, List.getElem?_append_right (Nat.le_refl _)]
  simp
theorem grow_sorted (n kd : Nat) : ∀ (d : Nat) (ab : List Nat), ab.length + d = n → (grow n kd d ab).Pairwise lexlt
  | 0, ab, _ => by unfold grow; split <;> simp
  | d + 1, ab, hab => by
    unfold grow
    refine pair_flat lexlt (· < ·) _ (fun s => ?_) (fun s s' hs p hp q hq => ?_) _ List.pairwise_lt_range
    · split
      · simp
      · exact grow_sorted n kd d (ab ++ [s]) (by rw [List.length_append, List.length_singleton]; omega)
    · split at hp
      · simp at hp
      split at hq
      · simp at hq
      obtain ⟨t, h1, h2, _⟩ := (grow_mem n kd d (ab ++ [s]) p (by rw [List.length_append, List.length_singleton]; omega)).1 hp
      obtain ⟨t', h1', h2', _⟩ := (grow_mem n kd d (ab ++ [s']) q (by rw [List.length_append, List.length_singleton]; omega)).1 hq
      rw [List.append_assoc, List.singleton_append] at h1 h1'
      subst h1; subst h1'
      refine ⟨ab.length, by simp, by simp, fun i hi => by rw [app_get _ _ _ hi, app_get _ _ _ hi], ?_⟩
      rw [app_get2, app_get2]
      exact hs
theorem ordL_sorted (n kd : Nat) : (ordL n kd).Pairwise lexlt := grow_sorted n kd n [] (by simp)
def okK (n kd : Int) : Bool := decide (0 ≤ n ∧ n ≤ 4) && decide (0 ≤ kd ∧ kd ≤ 3)
theorem within_b (a b c : Int) : impl_within.f a b c = some (decide (b ≤ a ∧ a ≤ c)) ∧ spec_l1In.f a b c = some (decide (b ≤ a ∧ a ≤ c)) := by
  unfold impl_within.f spec_l1In.f
  by_cases h : a ≥ b
  · rw [if_pos h]
    rw [show decide (a ≤ c) = decide (b ≤ a ∧ a ≤ c) from decide_eq_decide.2 (by omega)]
    exact ⟨rfl, rfl⟩
  · rw [if_neg h]
    have : ¬ (b ≤ a ∧ a ≤ c) := by omega
    rw [decide_eq_false this]
    exact ⟨rfl, rfl⟩
theorem okK_impl (n kd : Int) : impl_isChoiceKind.f n kd = some (okK n kd) := by
  unfold impl_isChoiceKind.f okK
  rw [(within_b n 0 4).1, (within_b kd 0 3).1]
  simp only [Option.bind_some]
  cases decide (0 ≤ n ∧ n ≤ 4) <;> rfl
theorem size_spec (n : Int) : spec_cfSize.f n = some (decide (0 ≤ n ∧ n ≤ 4)) := by
  unfold spec_cfSize.f
  rw [(within_b n 0 4).2]
  rfl
theorem kinds_spec (n : Int) : spec_cfKinds.f n = some (decide (0 ≤ n ∧ n ≤ 3)) := by
  unfold spec_cfKinds.f
  rw [(within_b n 0 3).2]
  rfl
theorem okK_nat (n kd : Int) (h : okK n kd = true) : ∃ a b : Nat, n = (a : Int) ∧ kd = (b : Int) ∧ a ≤ 4 ∧ b ≤ 3 := by
  unfold okK at h
  rw [Bool.and_eq_true, decide_eq_true_eq, decide_eq_true_eq] at h
  exact ⟨n.toNat, kd.toNat, by omega, by omega, by omega, by omega⟩
theorem okK_of (n kd : Nat) (hn : n ≤ 4) (hk : kd ≤ 3) : okK (n : Int) (kd : Int) = true := by
  unfold okK
  rw [Bool.and_eq_true, decide_eq_true_eq, decide_eq_true_eq]
  omega
theorem ordL_rel (n kd : Nat) : ∀ p ∈ ordL n kd, relN n p := fun p hp => ((mem_ordL n kd p).1 hp).1
theorem getD_mem (L : List (List Nat)) (i : Nat) (hi : i < L.length) : L.getD i [] ∈ L := by
  rw [List.getD_eq_getElem?_getD, List.getElem?_eq_getElem hi]
  exact List.getElem_mem hi

theorem near_no (n : Int) (l : List Int) (kd : Int) (hl : l.length ≤ 1048576) (h : (isRel n l && okK n kd) = false) (k : Nat) (hk : l.length + 60 < k) : impl_NearestOf.f k n l kd = some (0, [], 0, false) ∧ spec_NearestOf.f k n l kd = some (0, [], 0, false) := by
  obtain ⟨k, rfl⟩ : ∃ m, k = m + 1 := ⟨k - 1, by omega⟩
  unfold impl_NearestOf.f spec_NearestOf.f
  rw [IsRelation_k n l (by omega) _ (by omega), orRelation_k n l (by omega) _ (by omega), okK_impl, size_spec, kinds_spec]
  simp only [Option.bind_some]
  cases hR : isRel n l
  · rw [if_neg (by simp), if_neg (by simp), impl_NearestOf.j0, spec_NearestOf.j0]
    exact ⟨rfl, rfl⟩
  · rw [hR, Bool.true_and] at h
    unfold okK at h ⊢
    rw [if_pos rfl, if_pos rfl, h, impl_NearestOf.j0]
    refine ⟨rfl, ?_⟩
    cases h1 : decide (0 ≤ n ∧ n ≤ 4)
    · rw [if_neg (by simp), spec_NearestOf.j0]
      rfl
    · rw [h1, Bool.true_and] at h
      rw [if_pos rfl, h, spec_NearestOf.j0]
      rfl
theorem rel_is (n : Nat) (hn : n ≤ 10) (ms : List Nat) (h : relN n ms) : isRel (n : Int) (aI ms) = true := (isRel_iff _ _).2 ⟨n, ms, rfl, rfl, hn, h.1, h.2⟩
theorem near_yes (n kd : Nat) (hn : n ≤ 4) (hk3 : kd ≤ 3) (ms : List Nat) (hm : relN n ms) : ∃ q, q ∈ ordL n kd ∧ (∀ p ∈ ordL n kd, apartTo ms q n ≤ apartTo ms p n) ∧ ∀ k, 300000 ≤ k →
    impl_NearestOf.f k (n : Int) (aI ms) (kd : Int) = some ((n : Int), aI q, ((apartTo ms q n : Nat) : Int), true) ∧ spec_NearestOf.f k (n : Int) (aI ms) (kd : Int) = some ((n : Int), aI q, ((apartTo ms q n : Nat) : Int), true) := by
  have lm : (aI ms).length = n := by rw [List.length_map]; exact hm.1
  have hL := ordL_len n kd hn
  obtain ⟨q, h1, h2, h3, _⟩ := best_ok n ms (ordL n kd) none (by intro q d h; cases h) (.inl (List.ne_nil_of_mem (zero_mem n kd)))
  have h2 : q ∈ ordL n kd := by
    rcases h2 with h | h
    · exact h
    · cases h
  have ll : (((ordL n kd).map (oS n)).length : Int) = ((ordL n kd).length : Int) := by rw [List.length_map]
  have hok := okK_of n kd hn hk3
  refine ⟨q, h2, h3, fun k hk => ?_⟩
  obtain ⟨k, rfl⟩ : ∃ m, k = m + 1 := ⟨k - 1, by omega⟩
  have hl := near_l0 n (by omega) ms hm (ordL n kd) (by omega) (ordL_rel n kd) (ordL n kd).length 0 none k (by omega) (by omega)
  rw [List.drop_zero, h1] at hl
  refine ⟨?_, ?_⟩
  · unfold impl_NearestOf.f
    rw [IsRelation_k _ _ (by omega) _ (by omega), rel_is n (by omega) ms hm, okK_impl, hok]
    simp only [Option.bind_some, if_true]
    rw [impl_NearestOf.j0, if_neg (by simp), impl_list_k n kd hn k (by omega)]
    simp only [Option.bind_some]
    rw [ll]
    exact hl.1
  · unfold okK at hok
    rw [Bool.and_eq_true] at hok
    unfold spec_NearestOf.f
    rw [orRelation_k _ _ (by omega) _ (by omega), rel_is n (by omega) ms hm, size_spec, kinds_spec, hok.1, hok.2]
    simp only [Option.bind_some, if_true]
    rw [spec_NearestOf.j0, if_neg (by simp), spec_list_k n kd hn k (by omega)]
    simp only [Option.bind_some]
    rw [ll]
    exact hl.2

theorem nearest_both (n : Int) (l : List Int) (kd : Int) (hl : l.length ≤ 1048576) : ∃ (a : Int) (q : List Int) (d : Int) (z : Bool), q.length ≤ 10 ∧ (∀ k, l.length + 300000 ≤ k → impl_NearestOf.f k n l kd = some (a, q, d, z)) ∧ (∀ k, l.length + 300000 ≤ k → spec_NearestOf.f k n l kd = some (a, q, d, z)) := by
  cases hT : isRel n l && okK n kd
  · exact ⟨0, [], 0, false, by simp, fun k hk => (near_no n l kd hl hT k (by omega)).1, fun k hk => (near_no n l kd hl hT k (by omega)).2⟩
  · rw [Bool.and_eq_true] at hT
    obtain ⟨m, ms, rfl, rfl, h1, h2, h3⟩ := (isRel_iff n l).1 hT.1
    obtain ⟨m', kd', e1, rfl, hm, hk3⟩ := okK_nat _ _ hT.2
    have e1 : m' = m := by omega
    subst e1
    obtain ⟨q, q1, _, q2⟩ := near_yes m' kd' hm hk3 ms ⟨h2, h3⟩
    have hq := (ordL_rel m' kd' q q1).1
    exact ⟨(m' : Int), aI q, ((apartTo ms q m' : Nat) : Int), true, by rw [List.length_map]; omega, fun k hk => (q2 k (by omega)).1, fun k hk => (q2 k (by omega)).2⟩
theorem FnExactNearestOf : laws_FnExactNearestOf.Pure := by
  intro n l kd _ hm _ _
  by_cases h : (l.length : Int) ≤ 1048576
  · obtain ⟨a, q, d, z, hq, hI, hS⟩ := nearest_both n l kd (by omega)
    obtain ⟨K, hK⟩ : ∃ K, l.length + 300010 = K := ⟨_, rfl⟩
    refine ⟨K, ?_⟩
    unfold laws_FnExactNearestOf.f
    rw [szOrder_eq n l _ (by omega) hm, if_pos h]
    simp only [Option.bind_some]
    rw [if_neg (by omega)]
    repeat (first
      | (rw [toOrder_k _ _ (by omega) _ (by omega)]; simp only [Option.bind_some])
      | (rw [hS _ (by omega)]; simp only [Option.bind_some])
      | (rw [hI _ (by omega)]; simp only [Option.bind_some])
      | (rw [eqOrder_k _ _ (by omega) _ (by omega)]; simp only [Option.bind_some])
      | (rw [markOrder_k _ _ (by omega) _ (by omega)]; simp only [Option.bind_some])
      | (rw [heldOrder_k _ _ (by omega) _ (by omega)]; simp only [Option.bind_some])
      | (simp only [if_true, Bool.false_eq_true, if_false, bne_self_eq_false, if_neg (one_add_nonneg _), if_pos rfl]; done)
      | (rw [if_neg (one_add_nonneg _)])
      | (obtain ⟨K, rfl⟩ : ∃ m, K = m + 1 := ⟨K - 1, by omega⟩; rw [laws_FnExactNearestOf.j0]; simp only [Bool.false_eq_true, if_false, if_true])
      | (obtain ⟨K, rfl⟩ : ∃ m, K = m + 1 := ⟨K - 1, by omega⟩; rw [laws_FnExactNearestOf.j1]; simp only [Bool.false_eq_true, if_false, if_true])
      | (obtain ⟨K, rfl⟩ : ∃ m, K = m + 1 := ⟨K - 1, by omega⟩; rw [laws_FnExactNearestOf.j2]; simp only [Bool.false_eq_true, if_false, if_true])
      | (simp only [if_true, Bool.false_eq_true, if_false, bne_self_eq_false]))
  · refine ⟨1, ?_⟩
    unfold laws_FnExactNearestOf.f
    rw [szOrder_eq n l _ (by omega) hm, if_neg h]
    simp

end Go.Proofs.YtdaneldckdjjoaaDoor.Pure
