/- TableOfOrder: the program returns for every order and every two lists the table that the reference returns; the card: the tables of the library as the program lays them. -/
import Derived.Test.YtpippjgphndjmaaDoorPFnExactTableOfOrderx6
namespace Go.Proofs.YtpippjgphndjmaaDoor.Pure
open Go.RowKit Go.Proofs.YtpippjgphndjmaaDoor.PFnExactTableOfOrder Go.Proofs.YtpippjgphndjmaaDoorW.PrintWords Go.Proofs.YtpippjgphndjmaaDoorW.PrintLast Go.Proofs.YtpippjgphndjmaaDoorW.PrintMore
set_option linter.unusedVariables false
set_option linter.unusedSimpArgs false

theorem wrap_ok {x : Int} (h0 : -9223372036854775808 ≤ x) (h1 : x < 9223372036854775808) : wrap64 x = x := by unfold wrap64; omega
theorem wf_bounds {x : Int} (h : (Lit.int .i64 x).wf = true) : -9223372036854775808 ≤ x ∧ x < 9223372036854775808 := by
  have e : IntKind.i64.min ≤ x ∧ x ≤ 9223372036854775807 := by simpa [Lit.wf] using h
  have m : IntKind.i64.min = -9223372036854775808 := by decide
  omega
theorem rd_nat (l : List Int) (i : Nat) : rd l (i : Int) = l.getD i 0 := by simp [rd]

theorem toIntS_l0 (l : List Int) (hl : l.length ≤ 4611686018427387904) : ∀ (d k i : Nat) (x : List Int), i + d = l.length → d < k → x.length = l.length → (∀ j, j < i → x[j]? = l[j]?) → laws_toIntS.l0 k l x (i : Int) = some l := by
  intro d
  induction d with
  | zero =>
    intro k i x h hk hx hj
    obtain ⟨k, rfl⟩ : ∃ m, k = m + 1 := ⟨k - 1, by omega⟩
    simp only [laws_toIntS.l0]
    rw [if_neg (by omega)]
    congr 1
    apply List.ext_getElem?
    intro j
    by_cases hji : j < i
    · exact hj j hji
    · rw [List.getElem?_eq_none (by omega), List.getElem?_eq_none (by omega)]
  | succ d ih =>
    intro k i x h hk hx hj
    obtain ⟨k, rfl⟩ : ∃ m, k = m + 1 := ⟨k - 1, by omega⟩
    simp only [laws_toIntS.l0]
    rw [if_pos (by omega), if_pos (by omega), if_pos (by omega), wrap_ok (by omega) (by omega)]
    have e : ((i : Int) + 1) = ((i + 1 : Nat) : Int) := by omega
    rw [e]
    refine ih k (i + 1) _ (by omega) (by omega) (by simpa using hx) ?_
    intro j hji
    have e2 : (i : Int).toNat = i := by omega
    rw [e2, List.getElem?_set]
    by_cases hj2 : i = j
    · subst hj2
      rw [if_pos rfl, if_pos (by omega), rd_nat, List.getElem?_eq_getElem (by omega)]
      simp
      rw [List.getElem?_eq_getElem (by omega)]
      rfl
    · rw [if_neg hj2]
      exact hj j (by omega)
theorem toIntS_k (l : List Int) (hl : l.length ≤ 1048576) (k : Nat) (hk : l.length < k) : laws_toIntS.f k l = some l := by
  unfold laws_toIntS.f
  rw [if_pos (by omega), if_pos (by omega)]
  exact toIntS_l0 l (by omega) l.length k 0 _ (by omega) hk (by simp) (by intro j hj; omega)
theorem toIntS_ev (l : List Int) (hl : l.length ≤ 1048576) : Ev (fun k => laws_toIntS.f k l) l := ⟨l.length + 1, fun k hk => toIntS_k l hl k (by omega)⟩

theorem eqIntS_l0 (l : List Int) (hl : l.length ≤ 4611686018427387904) : ∀ (d k i : Nat), i + d = l.length → d < k → laws_eqIntS.l0 k l l (i : Int) = some true := by
  intro d
  induction d with
  | zero =>
    intro k i h hk
    obtain ⟨k, rfl⟩ : ∃ m, k = m + 1 := ⟨k - 1, by omega⟩
    simp only [laws_eqIntS.l0]
    rw [if_neg (by omega)]
  | succ d ih =>
    intro k i h hk
    obtain ⟨k, rfl⟩ : ∃ m, k = m + 1 := ⟨k - 1, by omega⟩
    simp only [laws_eqIntS.l0]
    rw [if_pos (by omega), if_pos (by omega), if_pos (by omega), if_true, wrap_ok (by omega) (by omega)]
    have e : ((i : Int) + 1) = ((i + 1 : Nat) : Int) := by omega
    rw [e]
    exact ih k (i + 1) (by omega) (by omega)
theorem eqIntS_k (l : List Int) (hl : l.length ≤ 4611686018427387904) (k : Nat) (hk : l.length < k) : laws_eqIntS.f k l l = some true := by
  unfold laws_eqIntS.f
  rw [if_pos rfl]
  exact eqIntS_l0 l hl l.length k 0 (by omega) hk
theorem eqIntS_ev (l : List Int) (hl : l.length ≤ 4611686018427387904) : Ev (fun k => laws_eqIntS.f k l l) true := ⟨l.length + 1, fun k hk => eqIntS_k l hl k (by omega)⟩

theorem within_eq (a b c : Int) : impl_within.f a b c = some (decide (b ≤ a ∧ a ≤ c)) := by
  unfold impl_within.f
  by_cases h : a ≥ b <;> simp [h] <;> omega
theorem l1In_eq (a b c : Int) : spec_l1In.f a b c = some (decide (b ≤ a ∧ a ≤ c)) := by
  unfold spec_l1In.f
  by_cases h : a ≥ b <;> simp [h] <;> omega

def allIn (l : List Int) (a b : Int) : Bool := l.all fun x => decide (a ≤ x ∧ x ≤ b)
theorem getD_drop (l : List Int) (i : Nat) (h : i < l.length) : l.drop i = l.getD i 0 :: l.drop (i + 1) := by
  rw [List.drop_eq_getElem_cons h]
  simp [h]
theorem allWithin_l0 (l : List Int) (a b : Int) (hl : l.length ≤ 4611686018427387904) : ∀ (d k i : Nat), i + d = l.length → d < k → impl_allWithin.l0 k a b l (l.length : Int) (i : Int) = some (allIn (l.drop i) a b) := by
  intro d
  induction d with
  | zero =>
    intro k i h hk
    obtain ⟨k, rfl⟩ : ∃ m, k = m + 1 := ⟨k - 1, by omega⟩
    simp only [impl_allWithin.l0]
    rw [if_neg (by omega), List.drop_eq_nil_of_le (by omega)]
    rfl
  | succ d ih =>
    intro k i h hk
    obtain ⟨k, rfl⟩ : ∃ m, k = m + 1 := ⟨k - 1, by omega⟩
    simp only [impl_allWithin.l0]
    rw [if_pos (by omega), if_pos (by omega), if_pos (by omega), wrap_ok (by omega) (by omega), within_eq, getD_drop l i (by omega), rd_nat]
    have e : ((i : Int) + 1) = ((i + 1 : Nat) : Int) := by omega
    rw [e, ih k (i + 1) (by omega) (by omega)]
    simp only [Option.bind_some, allIn, List.all_cons]
    cases decide (a ≤ l.getD i 0 ∧ l.getD i 0 ≤ b) <;> simp
theorem allWithin_k (l : List Int) (a b : Int) (hl : l.length ≤ 4611686018427387904) (k : Nat) (hk : l.length < k) : impl_allWithin.f k l a b = some (allIn l a b) := by
  unfold impl_allWithin.f
  exact allWithin_l0 l a b hl l.length k 0 (by omega) hk
theorem l1All_l0 (l : List Int) (a b : Int) (hl : l.length ≤ 4611686018427387904) : ∀ (d k i : Nat), i + d = l.length → d < k → spec_l1All.l0 k a b l (l.length : Int) (i : Int) = some (allIn (l.drop i) a b) := by
  intro d
  induction d with
  | zero =>
    intro k i h hk
    obtain ⟨k, rfl⟩ : ∃ m, k = m + 1 := ⟨k - 1, by omega⟩
    simp only [spec_l1All.l0]
    rw [if_neg (by omega), List.drop_eq_nil_of_le (by omega)]
    rfl
  | succ d ih =>
    intro k i h hk
    obtain ⟨k, rfl⟩ : ∃ m, k = m + 1 := ⟨k - 1, by omega⟩
    simp only [spec_l1All.l0]
    rw [if_pos (by omega), if_pos (by omega), if_pos (by omega), wrap_ok (by omega) (by omega), l1In_eq, getD_drop l i (by omega), rd_nat]
    have e : ((i : Int) + 1) = ((i + 1 : Nat) : Int) := by omega
    rw [e, ih k (i + 1) (by omega) (by omega)]
    simp only [Option.bind_some, allIn, List.all_cons]
    cases decide (a ≤ l.getD i 0 ∧ l.getD i 0 ≤ b) <;> simp
theorem l1All_k (l : List Int) (a b : Int) (hl : l.length ≤ 4611686018427387904) (k : Nat) (hk : l.length < k) : spec_l1All.f k l a b = some (allIn l a b) := by
  unfold spec_l1All.f
  exact l1All_l0 l a b hl l.length k 0 (by omega) hk

theorem eqTable_k (R C : Int) (M : List Int) (hM : M.length ≤ 1048576) (k : Nat) (hk : M.length < k) : laws_eqTable.f k R C M R C M = some true := by
  unfold laws_eqTable.f
  rw [if_pos rfl, if_pos rfl, eqIntS_k M (by omega) k hk]
  rfl

/-! Sets as numbers. -/
def andn (a b : Nat) : Nat := a ^^^ (a &&& b)
theorem andn_bit (a b i : Nat) : (andn a b).testBit i = (a.testBit i && !b.testBit i) := by
  unfold andn
  rw [Nat.testBit_xor, Nat.testBit_and]
  cases a.testBit i <;> cases b.testBit i <;> rfl
theorem wrap_i64_nat (n : Nat) (h : n < 2 ^ 63) : IntKind.i64.wrap (n : Int) = (n : Int) := by
  rw [IntKind.wrap_i64]
  have : (n : Int) < 9223372036854775808 := by omega
  omega
theorem ofInt_toNat (n : Nat) (h : n < 2 ^ 63) : (BitVec.ofInt 64 (n : Int)).toNat = n := by
  rw [BitVec.ofInt_natCast, BitVec.toNat_ofNat, Nat.mod_eq_of_lt (by omega)]
theorem and_nat (a b : Nat) (ha : a < 2 ^ 63) (hb : b < 2 ^ 63) : Go.bits .and .i64 (a : Int) (b : Int) = ((a &&& b : Nat) : Int) := by
  unfold Go.bits
  show IntKind.i64.wrap ((BitVec.ofInt 64 (a : Int) &&& BitVec.ofInt 64 (b : Int)).toNat : Int) = _
  rw [BitVec.toNat_and, ofInt_toNat a ha, ofInt_toNat b hb]
  exact wrap_i64_nat _ (Nat.lt_of_le_of_lt Nat.and_le_left ha)
theorem or_nat (a b : Nat) (ha : a < 2 ^ 63) (hb : b < 2 ^ 63) : Go.bits .or .i64 (a : Int) (b : Int) = ((a ||| b : Nat) : Int) := by
  unfold Go.bits
  show IntKind.i64.wrap ((BitVec.ofInt 64 (a : Int) ||| BitVec.ofInt 64 (b : Int)).toNat : Int) = _
  rw [BitVec.toNat_or, ofInt_toNat a ha, ofInt_toNat b hb]
  exact wrap_i64_nat _ (Nat.or_lt_two_pow ha hb)
theorem xor_nat (a b : Nat) (ha : a < 2 ^ 63) (hb : b < 2 ^ 63) : Go.bits .xor .i64 (a : Int) (b : Int) = ((a ^^^ b : Nat) : Int) := by
  unfold Go.bits
  show IntKind.i64.wrap ((BitVec.ofInt 64 (a : Int) ^^^ BitVec.ofInt 64 (b : Int)).toNat : Int) = _
  rw [BitVec.toNat_xor, ofInt_toNat a ha, ofInt_toNat b hb]
  exact wrap_i64_nat _ (Nat.xor_lt_two_pow ha hb)
theorem andn_le (a b : Nat) : andn a b ≤ a := Nat.le_of_testBit fun i h => by
  rw [andn_bit] at h
  cases h1 : a.testBit i
  · simp [h1] at h
  · rfl
theorem andNot_nat (a b : Nat) (ha : a < 2 ^ 63) (hb : b < 2 ^ 63) : Go.bits .andNot .i64 (a : Int) (b : Int) = ((andn a b : Nat) : Int) := by
  unfold Go.bits
  show IntKind.i64.wrap ((BitVec.ofInt 64 (a : Int) &&& ~~~ BitVec.ofInt 64 (b : Int)).toNat : Int) = _
  have e : (BitVec.ofInt 64 (a : Int) &&& ~~~ BitVec.ofInt 64 (b : Int)).toNat = andn a b := by
    apply Nat.eq_of_testBit_eq
    intro i
    rw [andn_bit, BitVec.toNat_and, Nat.testBit_and, ofInt_toNat a ha, BitVec.testBit_toNat, BitVec.getLsbD_not, BitVec.ofInt_natCast, BitVec.getLsbD_ofNat]
    by_cases hi : i < 64
    · rw [decide_eq_true hi]
      simp only [Bool.true_and]
    · have : a.testBit i = false := Nat.testBit_lt_two_pow (Nat.lt_of_lt_of_le ha (Nat.pow_le_pow_right (by omega) (by omega)))
      simp [this]
  rw [e]
  exact wrap_i64_nat _ (Nat.lt_of_le_of_lt (andn_le a b) ha)
theorem andn_zero (a b : Nat) : andn a b = 0 ↔ ∀ i, a.testBit i = true → b.testBit i = true := by
  constructor
  · intro h i hi
    have := andn_bit a b i
    rw [h, hi] at this
    cases hb : b.testBit i
    · simp [hb] at this
    · rfl
  · intro h
    apply Nat.eq_of_testBit_eq
    intro i
    rw [andn_bit]
    cases ha : a.testBit i
    · simp
    · simp [h i ha]
theorem andn_zero_le {a b : Nat} (h : andn a b = 0) : a ≤ b := Nat.le_of_testBit fun i hi => (andn_zero a b).1 h i hi
theorem andNot_le {p i : Int} (h0 : 0 ≤ p) (h1 : 0 ≤ i) (hp : p < 9223372036854775808) (hi : i < 9223372036854775808) (h : Go.bits .andNot .i64 p i = 0) : p ≤ i := by
  obtain ⟨a, rfl⟩ := Int.eq_ofNat_of_zero_le h0
  obtain ⟨b, rfl⟩ := Int.eq_ofNat_of_zero_le h1
  rw [andNot_nat a b (by omega) (by omega)] at h
  have := andn_zero_le (a := a) (b := b) (by omega)
  omega

/-- The numbers a, a + 1, .. -/
def iota (a : Int) (n : Nat) : List Int := (List.range n).map fun (j : Nat) => a + (j : Int)
theorem iota_length (a : Int) (n : Nat) : (iota a n).length = n := by simp [iota]
theorem markIntS_l0 (a : Int) (h0 : 0 ≤ a) : ∀ (d k i : Nat) (l : List Int), i + d = l.length → d < k → a + l.length < 4611686018427387904 → (∀ j, j < i → l[j]? = some (a + (j : Int))) →
    laws_markIntS.l0 k l (a + (i : Int)) (i : Int) = some (a + (l.length : Int), iota a l.length) := by
  intro d
  induction d with
  | zero =>
    intro k i l h hk ha hj
    obtain ⟨k, rfl⟩ : ∃ m, k = m + 1 := ⟨k - 1, by omega⟩
    simp only [laws_markIntS.l0]
    rw [if_neg (by omega)]
    have e : i = l.length := by omega
    subst e
    have e2 : l = iota a l.length := by
      apply List.ext_getElem?
      intro j
      by_cases hj2 : j < l.length
      · rw [hj j hj2]
        simp [iota, hj2]
      · rw [List.getElem?_eq_none (by omega), List.getElem?_eq_none (by rw [iota_length]; omega)]
    rw [← e2]
  | succ d ih =>
    intro k i l h hk ha hj
    obtain ⟨k, rfl⟩ : ∃ m, k = m + 1 := ⟨k - 1, by omega⟩
    simp only [laws_markIntS.l0]
    rw [if_pos (by omega), if_pos (by omega), wrap_ok (by omega) (by omega), wrap_ok (by omega) (by omega)]
    have e1 : ((i : Int) + 1) = ((i + 1 : Nat) : Int) := by omega
    have e2 : (a + (i : Int) + 1) = a + ((i + 1 : Nat) : Int) := by omega
    have e3 : (i : Int).toNat = i := by omega
    rw [e1, e2, e3]
    have := ih k (i + 1) (l.set i (a + (i : Int))) (by simp; omega) (by omega) (by simpa using ha) (by
      intro j hji
      rw [List.getElem?_set]
      by_cases e : i = j
      · subst e
        rw [if_pos rfl, if_pos (by omega)]
      · rw [if_neg e]
        exact hj j (by omega))
    simpa using this
theorem markIntS_k (l : List Int) (a : Int) (h0 : 0 ≤ a) (ha : a + l.length < 4611686018427387904) (k : Nat) (hk : l.length < k) : laws_markIntS.f k l a = some (a + (l.length : Int), iota a l.length) := by
  unfold laws_markIntS.f
  have := markIntS_l0 a h0 l.length k 0 l (by omega) hk ha (by intro j hj; omega)
  simpa using this
theorem heldIntS_l0 (a : Int) (n : Nat) (h0 : 0 ≤ a) (ha : a + n < 4611686018427387904) : ∀ (d k i : Nat), i + d = n → d < k → laws_heldIntS.l0 k (iota a n) (a + (i : Int)) (i : Int) = some (a + (n : Int)) := by
  intro d
  induction d with
  | zero =>
    intro k i h hk
    obtain ⟨k, rfl⟩ : ∃ m, k = m + 1 := ⟨k - 1, by omega⟩
    simp only [laws_heldIntS.l0, iota_length]
    rw [if_neg (by omega)]
    congr 1
    omega
  | succ d ih =>
    intro k i h hk
    obtain ⟨k, rfl⟩ : ∃ m, k = m + 1 := ⟨k - 1, by omega⟩
    simp only [laws_heldIntS.l0, iota_length]
    have e4 : rd (iota a n) (i : Int) = a + (i : Int) := by
      rw [rd_nat]
      simp [iota, List.getD_eq_getElem?_getD, show i < n by omega]
    rw [if_pos (by omega), if_pos (by omega), if_pos e4, wrap_ok (by omega) (by omega), wrap_ok (by omega) (by omega)]
    have e1 : ((i : Int) + 1) = ((i + 1 : Nat) : Int) := by omega
    have e2 : (a + (i : Int) + 1) = a + ((i + 1 : Nat) : Int) := by omega
    rw [e1, e2]
    exact ih k (i + 1) (by omega) (by omega)
theorem heldIntS_k (a : Int) (n : Nat) (h0 : 0 ≤ a) (ha : a + n < 4611686018427387904) (k : Nat) (hk : n < k) : laws_heldIntS.f k (iota a n) a = some (a + (n : Int)) := by
  unfold laws_heldIntS.f
  have := heldIntS_l0 a n h0 ha n k 0 (by omega) hk
  simpa using this
theorem one_add_nonneg (m : Nat) : ¬ (1 + (m : Int) < 0) := by omega

/-- The set of the j < n for which q tells true. -/
def bitsum (q : Nat → Bool) : Nat → Nat
  | 0 => 0
  | j + 1 => bitsum q j ||| (if q j then 2 ^ j else 0)
theorem bitsum_lt (q : Nat → Bool) (n : Nat) : bitsum q n < 2 ^ n := by
  induction n with
  | zero => simp [bitsum]
  | succ n ih =>
    rw [bitsum]
    apply Nat.or_lt_two_pow
    · exact Nat.lt_of_lt_of_le ih (Nat.pow_le_pow_right (by omega) (by omega))
    · split
      · exact Nat.pow_lt_pow_right (by omega) (by omega)
      · exact Nat.two_pow_pos _
theorem bitsum_bit (q : Nat → Bool) (n i : Nat) : (bitsum q n).testBit i = (decide (i < n) && q i) := by
  induction n with
  | zero => simp [bitsum]
  | succ n ih =>
    rw [bitsum, Nat.testBit_or, ih]
    by_cases e : i = n
    · subst e
      cases h : q i <;> simp [Nat.testBit_two_pow_self]
    · have : (if q n then 2 ^ n else 0).testBit i = false := by
        split
        · rw [Nat.testBit_two_pow_of_ne (by omega)]
        · simp
      rw [this]
      by_cases h : i < n
      · simp [h, show i < n + 1 by omega]
      · simp [h, show ¬ i < n + 1 by omega]
theorem bitsum_congr {q q' : Nat → Bool} (n : Nat) (h : ∀ i, i < n → q i = q' i) : bitsum q n = bitsum q' n := by
  induction n with
  | zero => rfl
  | succ n ih => rw [bitsum, bitsum, ih (fun i hi => h i (by omega)), h n (by omega)]
theorem shl_one (j : Nat) (h : j < 62) : shl .i64 1 (j : Int) = ((2 ^ j : Nat) : Int) := by
  unfold shl
  have e : min (j : Int).toNat IntKind.i64.bits = j := by
    show min (j : Int).toNat 64 = j
    omega
  rw [e]
  have e2 : (1 : Int) * 2 ^ j = ((2 ^ j : Nat) : Int) := by simp
  rw [e2]
  exact wrap_i64_nat _ (Nat.pow_lt_pow_right (by omega) (by omega))
theorem or_shl (a j : Nat) (ha : a < 2 ^ 62) (hj : j < 62) : Go.bits .or .i64 (a : Int) (shl .i64 1 (j : Int)) = ((a ||| 2 ^ j : Nat) : Int) := by
  rw [shl_one j hj]
  exact or_nat a _ (Nat.lt_of_lt_of_le ha (by decide)) (Nat.pow_lt_pow_right (by omega) (by omega))
/-- The rows' sets. -/
def relList (R C : Nat) (p : Nat → Nat → Bool) : List Int := (List.range R).map fun i => ((bitsum (p i) C : Nat) : Int)
theorem relList_length (R C : Nat) (p : Nat → Nat → Bool) : (relList R C p).length = R := by simp [relList]
theorem relList_congr {R C : Nat} {p p' : Nat → Nat → Bool} (h : ∀ i j, i < R → j < C → p i j = p' i j) : relList R C p = relList R C p' := by
  unfold relList
  apply List.map_congr_left
  intro i hi
  rw [bitsum_congr C (fun j hj => h i j (by simpa using hi) hj)]
/-- A list that is being filled: the first i rows are whole, the row i has the columns < j, the others are 0. -/
def part (R C : Nat) (p : Nat → Nat → Bool) (i j : Nat) : List Int := (List.range R).map fun r => if r < i then ((bitsum (p r) C : Nat) : Int) else if r = i then ((bitsum (p r) j : Nat) : Int) else 0
theorem part_length (R C : Nat) (p : Nat → Nat → Bool) (i j : Nat) : (part R C p i j).length = R := by simp [part]
theorem part_start (R C : Nat) (p : Nat → Nat → Bool) : List.replicate R 0 = part R C p 0 0 := by
  apply List.ext_getElem?
  intro r
  by_cases h : r < R
  · simp [part, h, List.getElem?_replicate, bitsum]
  · rw [List.getElem?_eq_none (by simp; omega), List.getElem?_eq_none (by rw [part_length]; omega)]
theorem part_next (R C : Nat) (p : Nat → Nat → Bool) (i : Nat) : part R C p i C = part R C p (i + 1) 0 := by
  apply List.ext_getElem?
  intro r
  by_cases h : r < R
  · simp only [part, List.getElem?_map, List.getElem?_range h, Option.map_some]
    by_cases h1 : r < i
    · simp [h1, show r < i + 1 by omega]
    · by_cases h2 : r = i
      · simp [h2]
      · simp [h1, h2, show ¬ r < i + 1 by omega, bitsum]
  · rw [List.getElem?_eq_none (by rw [part_length]; omega), List.getElem?_eq_none (by rw [part_length]; omega)]
theorem part_end (R C : Nat) (p : Nat → Nat → Bool) : part R C p R 0 = relList R C p := by
  unfold part relList
  apply List.map_congr_left
  intro r hr
  rw [if_pos (by simpa using hr)]
theorem part_rd (R C : Nat) (p : Nat → Nat → Bool) (i j : Nat) (hi : i < R) : rd (part R C p i j) (i : Int) = ((bitsum (p i) j : Nat) : Int) := by
  rw [rd_nat]
  simp [part, List.getD_eq_getElem?_getD, hi]
theorem part_set (R C : Nat) (p : Nat → Nat → Bool) (i j : Nat) (hi : i < R) (hp : p i j = true) : (part R C p i j).set i ((bitsum (p i) j ||| 2 ^ j : Nat) : Int) = part R C p i (j + 1) := by
  apply List.ext_getElem?
  intro r
  by_cases h : r < R
  · rw [List.getElem?_set]
    simp only [part, List.getElem?_map, List.getElem?_range h, Option.map_some, List.length_map, List.length_range]
    by_cases e : i = r
    · subst e
      simp [h, bitsum, hp]
    · rw [if_neg e]
      simp [show ¬ r = i from fun h => e h.symm]
  · rw [List.getElem?_eq_none (by simp [part_length]; omega), List.getElem?_eq_none (by rw [part_length]; omega)]
theorem part_skip (R C : Nat) (p : Nat → Nat → Bool) (i j : Nat) (hp : p i j = false) : part R C p i j = part R C p i (j + 1) := by
  unfold part
  apply List.map_congr_left
  intro r _
  by_cases h1 : r < i
  · simp [h1]
  · by_cases h2 : r = i
    · subst h2
      simp [bitsum, hp]
    · simp [h1, h2]

theorem eqOrder_k (n : Int) (l : List Int) (hl : l.length ≤ 4611686018427387904) (k : Nat) (hk : l.length < k) : laws_eqOrder.f k n l n l = some true := by
  unfold laws_eqOrder.f
  rw [if_pos rfl, eqIntS_k l hl k hk]
  rfl

theorem markOrder_k (n : Int) (l : List Int) (hl : l.length ≤ 1048576) (k : Nat) (hk : l.length < k) : laws_markOrder.f k n l 1 = some (1 + (l.length : Int), iota 1 l.length) := by
  unfold laws_markOrder.f
  rw [markIntS_k l 1 (by omega) (by omega) k hk]
  rfl

theorem toOrder_k (n : Int) (l : List Int) (hl : l.length ≤ 1048576) (k : Nat) (hk : l.length < k) : laws_toOrder.f k n l = some (n, l) := by
  unfold laws_toOrder.f
  rw [toIntS_k l hl k hk]
  rfl
theorem szOrder_eq (n : Int) (l : List Int) (b : Int) (hb : 0 ≤ b ∧ b ≤ 1048576) (hm : l.length ≤ maxLen) : laws_szOrder.f n l b = some (if (l.length : Int) ≤ b then b - (l.length : Int) else -1) := by
  unfold maxLen at hm
  unfold laws_szOrder.f laws_szIntS.f
  rw [wrap_ok (by omega) (by omega)]
  by_cases h : (l.length : Int) ≤ b
  · rw [if_neg (by omega), if_pos h]
    simp only [Option.bind_some]
    rw [if_neg (by omega)]
  · rw [if_pos (by omega), if_neg h]
    simp

/-- A relation, told as data. -/
def isRel (n : Int) (l : List Int) : Bool := decide (0 ≤ n ∧ n ≤ 10) && decide ((l.length : Int) = n) && allIn l 0 (wrap64 (shl .i64 1 n - 1))
theorem IsRelation_k (n : Int) (l : List Int) (hl : l.length ≤ 4611686018427387904) (k : Nat) (hk : l.length < k) : impl_IsRelation.f k n l = some (isRel n l) := by
  unfold impl_IsRelation.f isRel
  simp only [within_eq, Option.bind_some]
  by_cases h1 : 0 ≤ n ∧ n ≤ 10
  · by_cases h3 : (l.length : Int) = n
    · rw [if_pos h3, if_pos (show 0 ≤ n by omega), allWithin_k l _ _ hl k hk]
      simp [h1, h3]
    · rw [if_neg h3]
      simp [h1, h3]
  · simp [h1]
theorem orRelation_k (n : Int) (l : List Int) (hl : l.length ≤ 4611686018427387904) (k : Nat) (hk : l.length < k) : spec_orRelation.f k n l = some (isRel n l) := by
  unfold spec_orRelation.f isRel
  simp only [l1In_eq, Option.bind_some]
  by_cases h1 : 0 ≤ n ∧ n ≤ 10
  · by_cases h3 : (l.length : Int) = n
    · rw [if_pos h3, if_pos (show 0 ≤ n by omega), l1All_k l _ _ hl k hk]
      simp [h1, h3]
    · rw [if_neg h3]
      simp [h1, h3]
  · simp [h1]
theorem allIn_iff (l : List Int) (a b : Int) : allIn l a b = true ↔ ∀ x ∈ l, a ≤ x ∧ x ≤ b := by
  unfold allIn
  rw [List.all_eq_true]
  simp
theorem ones_eq (c : Nat) (h : c ≤ 60) : wrap64 (shl .i64 1 (c : Int) - 1) = ((2 ^ c - 1 : Nat) : Int) := by
  have hp : 0 < 2 ^ c := Nat.two_pow_pos _
  have hq : 2 ^ c ≤ 2 ^ 60 := Nat.pow_le_pow_right (by omega) h
  rw [shl_one c (by omega), wrap_ok (by omega) (by omega)]
  omega
/-- What a relation is: its size and each element's betters as a number. -/
theorem isRel_iff (n : Int) (l : List Int) : isRel n l = true ↔ ∃ (m : Nat) (ms : List Nat), n = (m : Int) ∧ l = ms.map (fun (x : Nat) => (x : Int)) ∧ m ≤ 10 ∧ ms.length = m ∧ ∀ x ∈ ms, x < 2 ^ m := by
  unfold isRel
  simp only [Bool.and_eq_true, decide_eq_true_eq, allIn_iff]
  constructor
  · rintro ⟨⟨h1, h3⟩, h4⟩
    have ec : n = ((n.toNat : Nat) : Int) := by omega
    have e5 : wrap64 (shl .i64 1 n - 1) = ((2 ^ n.toNat - 1 : Nat) : Int) := by
      rw [ec]
      have := ones_eq n.toNat (by omega)
      have e6 : (((n.toNat : Nat) : Int)).toNat = n.toNat := by omega
      rw [e6]
      exact this
    rw [e5] at h4
    refine ⟨n.toNat, l.map Int.toNat, ec, ?_, by omega, by simp; omega, ?_⟩
    · rw [List.map_map]
      conv => lhs; rw [← List.map_id l]
      apply List.map_congr_left
      intro x hx
      have := h4 x hx
      show x = ((x.toNat : Nat) : Int)
      omega
    · intro x hx
      obtain ⟨y, hy, rfl⟩ := List.mem_map.1 hx
      have := h4 y hy
      have hp : 0 < 2 ^ n.toNat := Nat.two_pow_pos _
      omega
  · rintro ⟨m, ms, rfl, rfl, h1, h2, h3⟩
    have hp : 0 < 2 ^ m := Nat.two_pow_pos _
    refine ⟨⟨by omega, by simp; omega⟩, ?_⟩
    intro x hx
    obtain ⟨y, hy, rfl⟩ := List.mem_map.1 hx
    have := h3 y hy
    rw [ones_eq m (by omega)]
    omega
theorem rd_map (ms : List Nat) (i : Nat) : rd (ms.map (fun (x : Nat) => (x : Int))) (i : Int) = ((ms.getD i 0 : Nat) : Int) := by
  rw [rd_nat]
  simp only [List.getD_eq_getElem?_getD, List.getElem?_map]
  cases ms[i]? <;> simp
theorem getD_lt {ms : List Nat} {b : Nat} (hb : 0 < b) (h : ∀ x ∈ ms, x < b) (i : Nat) : ms.getD i 0 < b := by
  rw [List.getD_eq_getElem?_getD]
  cases hx : ms[i]? with
  | none => simpa using hb
  | some x => exact h x (List.mem_of_getElem? hx)

/-- The bit of a number, as Go asks it. -/
theorem shr_nat (x c : Nat) (hc : c < 64) : shr .i64 (x : Int) (c : Int) = ((x / 2 ^ c : Nat) : Int) := by
  unfold shr
  have e : min (c : Int).toNat IntKind.i64.bits = c := by
    show min (c : Int).toNat 64 = c
    omega
  rw [e]
  simp

theorem bit_and (x c : Nat) (hx : x < 2 ^ 63) (hc : c < 64) : (Go.bits .and .i64 (shr .i64 (x : Int) (c : Int)) 1 == 1) = x.testBit c := by
  rw [shr_nat x c hc]
  have h1 : x / 2 ^ c < 2 ^ 63 := Nat.lt_of_le_of_lt (Nat.div_le_self _ _) hx
  have e : Go.bits .and .i64 ((x / 2 ^ c : Nat) : Int) 1 = ((x / 2 ^ c &&& 1 : Nat) : Int) := and_nat _ 1 h1 (by decide)
  rw [e, Nat.and_one_is_mod]
  have e2 : x.testBit c = decide (x / 2 ^ c % 2 = 1) := Nat.testBit_eq_decide_div_mod_eq
  rw [e2]
  by_cases h : x / 2 ^ c % 2 = 1
  · simp [h]
  · have : x / 2 ^ c % 2 = 0 := by omega
    simp [this]

theorem tmod_nat (n : Nat) : Int.tmod (n : Int) 2 = ((n % 2 : Nat) : Int) := by
  rw [Int.tmod_eq_emod_of_nonneg (by omega)]
  omega
theorem orHas_k (x i : Nat) (hi : i < 64) : spec_orHas.f (x : Int) (i : Int) = some (x.testBit i) := by
  unfold spec_orHas.f
  rw [if_pos (by omega), shr_nat x i hi, tmod_nat]
  have e2 : x.testBit i = decide (x / 2 ^ i % 2 = 1) := Nat.testBit_eq_decide_div_mod_eq
  rw [e2]
  congr 1
  by_cases h : x / 2 ^ i % 2 = 1
  · simp [h]
  · have : x / 2 ^ i % 2 = 0 := by omega
    simp [this]

/-- The elements of a set that are less than m. -/
def elemsTo (x m : Nat) : List Nat := (List.range m).filter x.testBit
theorem elemsTo_succ (x m : Nat) : elemsTo x (m + 1) = elemsTo x m ++ (if x.testBit m = true then [m] else []) := by
  unfold elemsTo
  rw [List.range_succ, List.filter_append]
  by_cases h : x.testBit m = true <;> simp [h]
theorem elemsTo_length (x m : Nat) : (elemsTo x m).length ≤ m := by
  have := List.length_filter_le x.testBit (List.range m)
  simpa [elemsTo] using this
theorem elemsTo_more (x i d : Nat) (h : x < 2 ^ i) : elemsTo x (i + d) = elemsTo x i := by
  induction d with
  | zero => rfl
  | succ d ih =>
    rw [show i + (d + 1) = (i + d) + 1 from rfl, elemsTo_succ, ih]
    have : x.testBit (i + d) = false := Nat.testBit_lt_two_pow (Nat.lt_of_lt_of_le h (Nat.pow_le_pow_right (by omega) (by omega)))
    simp [this]
theorem orList_l0 (x m : Nat) (hx : x < 2 ^ m) (hm : m ≤ 60) : ∀ (d k i : Nat), i + d = m → d < k → spec_orList.l0 k (x : Int) ((elemsTo x i).map (fun (y : Nat) => (y : Int))) (i : Int) = some ((elemsTo x m).map (fun (y : Nat) => (y : Int))) := by
  intro d
  induction d with
  | zero =>
    intro k i hi hk
    obtain ⟨k, rfl⟩ : ∃ q, k = q + 1 := ⟨k - 1, by omega⟩
    have e : i = m := by omega
    subst e
    have h0 : x / 2 ^ i = 0 := Nat.div_eq_of_lt hx
    simp only [spec_orList.l0]
    rw [if_pos (by omega), shr_nat x i (by omega), h0, if_neg (by omega)]
  | succ d ih =>
    intro k i hi hk
    obtain ⟨k, rfl⟩ : ∃ q, k = q + 1 := ⟨k - 1, by omega⟩
    simp only [spec_orList.l0]
    rw [if_pos (by omega), shr_nat x i (by omega)]
    by_cases h0 : x / 2 ^ i = 0
    · rw [h0, if_neg (by omega)]
      have hlt : x < 2 ^ i := by
        have := Nat.div_eq_zero_iff.1 h0
        have hp := Nat.two_pow_pos i
        omega
      have := elemsTo_more x i (d + 1) hlt
      rw [hi] at this
      rw [this]
    · have hl := elemsTo_length x i
      have next := ih k (i + 1) (by omega) (by omega)
      have hpos : ((x / 2 ^ i : Nat) : Int) > 0 := Int.natCast_pos.2 (Nat.pos_of_ne_zero h0)
      rw [if_pos hpos, orHas_k x i (by omega), wrap_ok (by omega) (by omega), show ((i : Int) + 1) = ((i + 1 : Nat) : Int) by omega]
      simp only [Option.bind_some]
      rw [elemsTo_succ] at next
      cases hb : x.testBit i
      · rw [if_neg (by simp)]
        simpa [hb] using next
      · rw [if_pos rfl, if_pos (by simp; omega)]
        simpa [hb] using next
theorem orList_k (x m : Nat) (hx : x < 2 ^ m) (hm : m ≤ 60) (k : Nat) (hk : m < k) : spec_orList.f k (x : Int) = some ((elemsTo x m).map (fun (y : Nat) => (y : Int))) := by
  unfold spec_orList.f
  exact orList_l0 x m hx hm m k 0 (by omega) hk

theorem elems_mem (x m i : Nat) : (∃ q, q < (elemsTo x m).length ∧ (elemsTo x m).getD q 0 = i) ↔ i < m ∧ x.testBit i = true := by
  have h : i ∈ elemsTo x m ↔ i < m ∧ x.testBit i = true := by
    unfold elemsTo
    rw [List.mem_filter, List.mem_range]
  rw [← h]
  constructor
  · rintro ⟨q, hq, rfl⟩
    rw [List.getD_eq_getElem?_getD, List.getElem?_eq_getElem hq]
    exact List.getElem_mem hq
  · intro hi
    obtain ⟨q, hq, e⟩ := List.getElem_of_mem hi
    refine ⟨q, hq, ?_⟩
    rw [List.getD_eq_getElem?_getD, List.getElem?_eq_getElem hq]
    exact e
theorem elems_lt2 (x m j : Nat) (hj : j < (elemsTo x m).length) : (elemsTo x m).getD j 0 < m := ((elems_mem x m _).1 ⟨j, hj, rfl⟩).1

theorem better_k (N : Int) (l : List Int) (i j x : Nat) (hi : i < l.length) (hx : rd l (i : Int) = (x : Int)) (hx2 : x < 2 ^ 60) (hj : j < 60) : impl_Order_better.f N l (i : Int) (j : Int) = some (x.testBit j) := by
  unfold impl_Order_better.f
  rw [if_pos (by omega), if_pos (by omega), if_pos (by omega), hx, bit_and x j (by omega) (by omega)]

theorem members_all : ∀ x, x < 1024 → impl_members.f 12 ((x : Nat) : Int) = some ((elemsTo x 10).map (fun (y : Nat) => (y : Int))) := by decide +kernel
theorem members_k (x m : Nat) (hx : x < 2 ^ m) (hm : m ≤ 10) (k : Nat) (hk : 12 ≤ k) : impl_members.f k (x : Int) = some ((elemsTo x m).map (fun (y : Nat) => (y : Int))) := by
  have h0 := members_all x (Nat.lt_of_lt_of_le hx (Nat.pow_le_pow_right (n := 2) (by omega) hm))
  have e := elemsTo_more x m (10 - m) hx
  rw [show m + (10 - m) = 10 by omega] at e
  rw [e] at h0
  obtain ⟨d, rfl⟩ : ∃ d, k = 12 + d := ⟨k - 12, by omega⟩
  clear hk
  induction d with
  | zero => exact h0
  | succ d ih => exact impl_members.mono _ _ _ ih

/-- Each number of a list, from an index, is more than the one before. -/
def Rising (l : List Int) : Prop := ∀ j, 1 ≤ j → j < l.length → l.getD (j - 1) 0 < l.getD j 0
theorem isIncreasing_l0 (l : List Int) (hl : l.length ≤ 4611686018427387904) : ∀ (d k i : Nat), i + d = l.length ∨ (d = 0 ∧ l.length < i) → 1 ≤ i → i ≤ 4611686018427387904 → d < k →
    ∃ b, impl_isIncreasing.l0 k l (i : Int) = some b ∧ (b = true ↔ ∀ j, i ≤ j → j < l.length → l.getD (j - 1) 0 < l.getD j 0) := by
  intro d
  induction d with
  | zero =>
    intro k i h _ _ hk
    obtain ⟨k, rfl⟩ : ∃ m, k = m + 1 := ⟨k - 1, by omega⟩
    simp only [impl_isIncreasing.l0]
    refine ⟨true, by rw [if_neg (by omega)], ?_⟩
    simp only [true_iff]
    intro j h1 h2
    omega
  | succ d ih =>
    intro k i h h1 hi hk
    obtain ⟨k, rfl⟩ : ∃ m, k = m + 1 := ⟨k - 1, by omega⟩
    simp only [impl_isIncreasing.l0]
    have e : ((i : Int) - 1) = ((i - 1 : Nat) : Int) := by omega
    have e2 : ((i : Int) + 1) = ((i + 1 : Nat) : Int) := by omega
    rw [if_pos (by omega), wrap_ok (by omega) (by omega), wrap_ok (by omega) (by omega), if_pos (by omega), if_pos (by omega), if_pos (by omega), e, rd_nat, rd_nat, e2]
    by_cases hc : l.getD (i - 1) 0 ≥ l.getD i 0
    · refine ⟨false, by rw [if_pos hc], ?_⟩
      constructor
      · intro hh
        cases hh
      · intro hh
        have := hh i (by omega) (by omega)
        omega
    · obtain ⟨b, hb1, hb2⟩ := ih k (i + 1) (by omega) (by omega) (by omega) (by omega)
      refine ⟨b, by rw [if_neg hc, hb1], hb2.trans ?_⟩
      constructor
      · intro hh j h3 h4
        by_cases he : j = i
        · subst he
          omega
        · exact hh j (by omega) h4
      · intro hh j h3 h4
        exact hh j (by omega) h4
theorem isIncreasing_k (l : List Int) (hl : l.length ≤ 4611686018427387900) (k : Nat) (hk : l.length < k) : ∃ b, impl_isIncreasing.f k l = some b ∧ (b = true ↔ Rising l) := by
  unfold impl_isIncreasing.f
  cases l with
  | nil => exact isIncreasing_l0 [] (by simp) 0 k 1 (by simp) (by omega) (by omega) (by simp at hk; omega)
  | cons a l => exact isIncreasing_l0 (a :: l) (by omega) l.length k 1 (by simp; omega) (by omega) (by omega) (by simp at hk; omega)
/-- In the bounds and rising. -/
def InRise (l : List Int) (a b : Int) (i : Nat) : Prop := ∀ j, i ≤ j → j < l.length → (a ≤ l.getD j 0 ∧ l.getD j 0 ≤ b) ∧ (1 ≤ j → l.getD (j - 1) 0 < l.getD j 0)
theorem rising_l0 (l : List Int) (a b : Int) (hl : l.length ≤ 4611686018427387900) : ∀ (d k i : Nat), i + d = l.length → d < k →
    ∃ r, spec_l1Rising.l0 k l a b l (l.length : Int) (i : Int) = some r ∧ (r = true ↔ InRise l a b i) := by
  intro d
  induction d with
  | zero =>
    intro k i h hk
    obtain ⟨k, rfl⟩ : ∃ m, k = m + 1 := ⟨k - 1, by omega⟩
    simp only [spec_l1Rising.l0]
    refine ⟨true, by rw [if_neg (by omega)], ?_⟩
    simp only [true_iff]
    intro j h1 h2
    omega
  | succ d ih =>
    intro k i h hk
    obtain ⟨k, rfl⟩ : ∃ m, k = m + 1 := ⟨k - 1, by omega⟩
    obtain ⟨r, hr1, hr2⟩ := ih k (i + 1) (by omega) (by omega)
    simp only [spec_l1Rising.l0]
    have e2 : ((i : Int) + 1) = ((i + 1 : Nat) : Int) := by omega
    rw [if_pos (by omega), if_pos (by omega), if_pos (by omega), wrap_ok (x := (i : Int) + 1) (by omega) (by omega), l1In_eq, rd_nat, e2, hr1]
    simp only [Option.bind_some]
    by_cases h1 : a ≤ l.getD i 0 ∧ l.getD i 0 ≤ b
    · rw [if_pos (by simpa using h1)]
      by_cases h0 : i = 0
      · subst h0
        refine ⟨r, by rw [if_neg (by omega)], hr2.trans ?_⟩
        constructor
        · intro hh j h3 h4
          by_cases he : j = 0
          · subst he
            exact ⟨h1, fun h => by omega⟩
          · exact hh j (by omega) h4
        · intro hh j h3 h4
          exact hh j (by omega) h4
      · have e : ((i : Int) - 1) = ((i - 1 : Nat) : Int) := by omega
        rw [if_pos (by omega), wrap_ok (by omega) (by omega), if_pos (by omega), if_pos (by omega), e, rd_nat]
        by_cases hc : l.getD (i - 1) 0 ≥ l.getD i 0
        · refine ⟨false, by rw [if_pos hc], ?_⟩
          constructor
          · intro hh
            cases hh
          · intro hh
            have := (hh i (by omega) (by omega)).2 (by omega)
            omega
        · refine ⟨r, by rw [if_neg hc], hr2.trans ?_⟩
          constructor
          · intro hh j h3 h4
            by_cases he : j = i
            · subst he
              exact ⟨h1, fun _ => by omega⟩
            · exact hh j (by omega) h4
          · intro hh j h3 h4
            exact hh j (by omega) h4
    · refine ⟨false, by rw [if_neg (by simpa using h1)], ?_⟩
      constructor
      · intro hh
        cases hh
      · intro hh
        exact absurd (hh i (by omega) (by omega)).1 h1
theorem rising_k (l : List Int) (a b : Int) (hl : l.length ≤ 4611686018427387900) (k : Nat) (hk : l.length < k) : ∃ r, spec_l1Rising.f k l a b = some r ∧ (r = true ↔ InRise l a b 0) := by
  unfold spec_l1Rising.f
  exact rising_l0 l a b hl l.length k 0 (by omega) hk

/-- Is a row that of an order: the element isn't better than itself, and what is better than its betters is among them. -/
def ordRow (n : Nat) (ms : List Nat) (i : Nat) : Bool := !(ms.getD i 0).testBit i && (List.range' 0 (elemsTo (ms.getD i 0) n).length).all fun q => decide (andn (ms.getD ((elemsTo (ms.getD i 0) n).getD q 0) 0) (ms.getD i 0) = 0)
theorem impl_IsOrder_l0 (n : Nat) (hn : n ≤ 10) (ms : List Nat) (hl : ms.length = n) (hb : ∀ x ∈ ms, x < 2 ^ n) : ∀ (d k i : Nat), i + d = n → d * 14 + 20 < k →
    impl_IsOrder.l0 k (ms.map (fun (x : Nat) => (x : Int))) (n : Int) (i : Int) (n : Int) (ms.map (fun (x : Nat) => (x : Int))) = some ((List.range' i d).all (ordRow n ms)) := by
  intro d
  have h2 : 2 ^ n ≤ 2 ^ 10 := Nat.pow_le_pow_right (by omega) hn
  have lm : ((ms.map (fun (x : Nat) => (x : Int))).length : Int) = (n : Int) := by simp [hl]
  have lm2 : (ms.map (fun (x : Nat) => (x : Int))).length = n := by simp [hl]
  induction d with
  | zero =>
    intro k i hi hk
    obtain ⟨k, rfl⟩ : ∃ m, k = m + 1 := ⟨k - 1, by omega⟩
    simp only [impl_IsOrder.l0]
    rw [if_neg (by omega)]
    rfl
  | succ d ih =>
    intro k i hi hk
    obtain ⟨k, rfl⟩ : ∃ m, k = m + 1 := ⟨k - 1, by omega⟩
    simp only [impl_IsOrder.l0]
    have a1 := getD_lt (Nat.two_pow_pos n) hb i
    have r1 := rd_map ms i
    have hle := elemsTo_length (ms.getD i 0) n
    rw [if_pos (by omega), if_pos (by omega), if_pos (by omega), better_k (n : Int) _ i i _ (by omega) r1 (by omega) (by omega), r1, members_k _ n a1 hn k (by omega)]
    simp only [Option.bind_some]
    rw [List.range'_succ, List.all_cons]
    cases h1 : (ms.getD i 0).testBit i
    · rw [if_neg (by simp)]
      have inner : ∀ (e k q : Nat), q + e = (elemsTo (ms.getD i 0) n).length → d * 14 + 21 + e < k →
          impl_IsOrder.l1 k ((ms.getD i 0 : Nat) : Int) (ms.map (fun (x : Nat) => (x : Int))) (n : Int) (i : Int) ((elemsTo (ms.getD i 0) n).map (fun (x : Nat) => (x : Int))) ((elemsTo (ms.getD i 0) n).length : Int) (q : Int) (n : Int) (ms.map (fun (x : Nat) => (x : Int))) = some (((List.range' q e).all fun q => decide (andn (ms.getD ((elemsTo (ms.getD i 0) n).getD q 0) 0) (ms.getD i 0) = 0)) && (List.range' (i + 1) d).all (ordRow n ms)) := by
        intro e
        induction e with
        | zero =>
          intro k q hq hk
          obtain ⟨k, rfl⟩ : ∃ m, k = m + 1 := ⟨k - 1, by omega⟩
          simp only [impl_IsOrder.l1]
          rw [if_neg (by omega), wrap_ok (by omega) (by omega), show ((i : Int) + 1) = ((i + 1 : Nat) : Int) by omega, ih k (i + 1) (by omega) (by omega)]
          simp
        | succ e ihe =>
          intro k q hq hk
          obtain ⟨k, rfl⟩ : ∃ m, k = m + 1 := ⟨k - 1, by omega⟩
          simp only [impl_IsOrder.l1]
          have lL : (((elemsTo (ms.getD i 0) n).map (fun (x : Nat) => (x : Int))).length : Int) = ((elemsTo (ms.getD i 0) n).length : Int) := by simp
          have hj := elems_lt2 (ms.getD i 0) n q (by omega)
          have a2 := getD_lt (Nat.two_pow_pos n) hb ((elemsTo (ms.getD i 0) n).getD q 0)
          rw [if_pos (by omega), if_pos (by omega), if_pos (by omega), rd_map, if_pos (Int.natCast_nonneg _), lm, if_pos (Int.ofNat_lt.2 hj), rd_map, andNot_nat _ _ (by omega) (by omega), wrap_ok (by omega) (by omega), show ((q : Int) + 1) = ((q + 1 : Nat) : Int) by omega, ihe k (q + 1) (by omega) (by omega), List.range'_succ, List.all_cons]
          by_cases h : andn (ms.getD ((elemsTo (ms.getD i 0) n).getD q 0) 0) (ms.getD i 0) = 0
          · rw [if_pos (by rw [h]; rfl), decide_eq_true h, Bool.true_and]
          · rw [if_neg (by intro e; exact h (Int.ofNat_eq_zero.1 e)), decide_eq_false h, Bool.false_and, Bool.false_and]
      have := inner (elemsTo (ms.getD i 0) n).length k 0 (by omega) (by omega)
      have lL : (((elemsTo (ms.getD i 0) n).map (fun (x : Nat) => (x : Int))).length : Int) = ((elemsTo (ms.getD i 0) n).length : Int) := by simp
      rw [lL]
      have er : ordRow n ms i = (List.range' 0 (elemsTo (ms.getD i 0) n).length).all fun q => decide (andn (ms.getD ((elemsTo (ms.getD i 0) n).getD q 0) 0) (ms.getD i 0) = 0) := by
        unfold ordRow
        rw [h1]
        rfl
      rw [er]
      exact this
    · rw [if_pos rfl]
      have er : ordRow n ms i = false := by
        unfold ordRow
        rw [h1]
        rfl
      rw [er]
      rfl
theorem spec_orGood_l0 (n : Nat) (hn : n ≤ 10) (ms : List Nat) (hl : ms.length = n) (hb : ∀ x ∈ ms, x < 2 ^ n) : ∀ (d k i : Nat), i + d = n → d * 14 + 20 < k →
    spec_orGood.l0 k (ms.map (fun (x : Nat) => (x : Int))) (n : Int) (i : Int) (n : Int) (ms.map (fun (x : Nat) => (x : Int))) = some ((List.range' i d).all (ordRow n ms)) := by
  intro d
  have h2 : 2 ^ n ≤ 2 ^ 10 := Nat.pow_le_pow_right (by omega) hn
  have lm : ((ms.map (fun (x : Nat) => (x : Int))).length : Int) = (n : Int) := by simp [hl]
  have lm2 : (ms.map (fun (x : Nat) => (x : Int))).length = n := by simp [hl]
  induction d with
  | zero =>
    intro k i hi hk
    obtain ⟨k, rfl⟩ : ∃ m, k = m + 1 := ⟨k - 1, by omega⟩
    simp only [spec_orGood.l0]
    rw [if_neg (by omega)]
    rfl
  | succ d ih =>
    intro k i hi hk
    obtain ⟨k, rfl⟩ : ∃ m, k = m + 1 := ⟨k - 1, by omega⟩
    simp only [spec_orGood.l0]
    have a1 := getD_lt (Nat.two_pow_pos n) hb i
    have r1 := rd_map ms i
    have hle := elemsTo_length (ms.getD i 0) n
    rw [if_pos (by omega), if_pos (by omega), if_pos (by omega), r1, orHas_k _ i (by omega), orList_k _ n a1 (by omega) k (by omega)]
    simp only [Option.bind_some]
    rw [List.range'_succ, List.all_cons]
    cases h1 : (ms.getD i 0).testBit i
    · rw [if_neg (by simp)]
      have inner : ∀ (e k q : Nat), q + e = (elemsTo (ms.getD i 0) n).length → d * 14 + 21 + e < k →
          spec_orGood.l1 k ((ms.getD i 0 : Nat) : Int) (ms.map (fun (x : Nat) => (x : Int))) (n : Int) (i : Int) ((elemsTo (ms.getD i 0) n).map (fun (x : Nat) => (x : Int))) ((elemsTo (ms.getD i 0) n).length : Int) (q : Int) (n : Int) (ms.map (fun (x : Nat) => (x : Int))) = some (((List.range' q e).all fun q => decide (andn (ms.getD ((elemsTo (ms.getD i 0) n).getD q 0) 0) (ms.getD i 0) = 0)) && (List.range' (i + 1) d).all (ordRow n ms)) := by
        intro e
        induction e with
        | zero =>
          intro k q hq hk
          obtain ⟨k, rfl⟩ : ∃ m, k = m + 1 := ⟨k - 1, by omega⟩
          simp only [spec_orGood.l1]
          rw [if_neg (by omega), wrap_ok (by omega) (by omega), show ((i : Int) + 1) = ((i + 1 : Nat) : Int) by omega, ih k (i + 1) (by omega) (by omega)]
          simp
        | succ e ihe =>
          intro k q hq hk
          obtain ⟨k, rfl⟩ : ∃ m, k = m + 1 := ⟨k - 1, by omega⟩
          simp only [spec_orGood.l1]
          have lL : (((elemsTo (ms.getD i 0) n).map (fun (x : Nat) => (x : Int))).length : Int) = ((elemsTo (ms.getD i 0) n).length : Int) := by simp
          have hj := elems_lt2 (ms.getD i 0) n q (by omega)
          have a2 := getD_lt (Nat.two_pow_pos n) hb ((elemsTo (ms.getD i 0) n).getD q 0)
          rw [if_pos (by omega), if_pos (by omega), if_pos (by omega), rd_map, if_pos (Int.natCast_nonneg _), lm, if_pos (Int.ofNat_lt.2 hj), rd_map, andNot_nat _ _ (by omega) (by omega), wrap_ok (by omega) (by omega), show ((q : Int) + 1) = ((q + 1 : Nat) : Int) by omega, ihe k (q + 1) (by omega) (by omega), List.range'_succ, List.all_cons]
          by_cases h : andn (ms.getD ((elemsTo (ms.getD i 0) n).getD q 0) 0) (ms.getD i 0) = 0
          · rw [if_pos (by rw [h]; rfl), decide_eq_true h, Bool.true_and]
          · rw [if_neg (by intro e; exact h (Int.ofNat_eq_zero.1 e)), decide_eq_false h, Bool.false_and, Bool.false_and]
      have := inner (elemsTo (ms.getD i 0) n).length k 0 (by omega) (by omega)
      have lL : (((elemsTo (ms.getD i 0) n).map (fun (x : Nat) => (x : Int))).length : Int) = ((elemsTo (ms.getD i 0) n).length : Int) := by simp
      rw [lL]
      have er : ordRow n ms i = (List.range' 0 (elemsTo (ms.getD i 0) n).length).all fun q => decide (andn (ms.getD ((elemsTo (ms.getD i 0) n).getD q 0) 0) (ms.getD i 0) = 0) := by
        unfold ordRow
        rw [h1]
        rfl
      rw [er]
      exact this
    · rw [if_pos rfl]
      have er : ordRow n ms i = false := by
        unfold ordRow
        rw [h1]
        rfl
      rw [er]
      rfl
/-- What both tell of an order. -/
theorem order_both (n : Int) (l : List Int) (hl : l.length ≤ 1048576) : ∃ b, (∀ k, l.length + 300 < k → impl_IsOrder.f k n l = some b ∧ spec_orGood.f k n l = some b) ∧
    (b = true → ∃ (m : Nat) (ms : List Nat), n = (m : Int) ∧ l = ms.map (fun (x : Nat) => (x : Int)) ∧ m ≤ 10 ∧ ms.length = m ∧ (∀ x ∈ ms, x < 2 ^ m) ∧ (List.range' 0 m).all (ordRow m ms) = true) := by
  cases hT : isRel n l
  · refine ⟨false, fun k hk => ⟨?_, ?_⟩, by simp⟩
    · unfold impl_IsOrder.f
      rw [IsRelation_k n l (by omega) k (by omega), hT]
      rfl
    · unfold spec_orGood.f
      rw [orRelation_k n l (by omega) k (by omega), hT]
      rfl
  · obtain ⟨m, ms, rfl, rfl, h1, h2, h3⟩ := (isRel_iff n l).1 hT
    have lm : ((ms.map (fun (x : Nat) => (x : Int))).length : Int) = (m : Int) := by simp [h2]
    refine ⟨(List.range' 0 m).all (ordRow m ms), fun k hk => ⟨?_, ?_⟩, fun hb => ⟨m, ms, rfl, rfl, h1, h2, h3, hb⟩⟩
    · unfold impl_IsOrder.f
      rw [IsRelation_k _ _ (by omega) k (by omega), hT, lm]
      exact impl_IsOrder_l0 m h1 ms h2 h3 m k 0 (by omega) (by omega)
    · unfold spec_orGood.f
      rw [orRelation_k _ _ (by omega) k (by omega), hT, lm]
      exact spec_orGood_l0 m h1 ms h2 h3 m k 0 (by omega) (by omega)

theorem table_l0 (R C : Nat) (hR : R ≤ 60) (hC : C ≤ 60) (is : Int → Int → Option Bool) (p : Nat → Nat → Bool) (h : ∀ i j : Nat, i < R → j < C → is i j = some (p i j)) :
    ∀ (d k i : Nat), i + d = R → d * (C + 3) < k → impl_table.l0 k (C : Int) is (R : Int) (i : Int) (R : Int) (C : Int) (part R C p i 0) = some ((R : Int), (C : Int), relList R C p) := by
  intro d
  induction d with
  | zero =>
    intro k i hi hk
    obtain ⟨k, rfl⟩ : ∃ m, k = m + 1 := ⟨k - 1, by omega⟩
    simp only [impl_table.l0]
    have e : i = R := by omega
    subst e
    rw [if_neg (by omega), part_end]
  | succ d ih =>
    intro k i hi hk
    rw [Nat.succ_mul] at hk
    obtain ⟨k, rfl⟩ : ∃ m, k = m + 1 := ⟨k - 1, by omega⟩
    simp only [impl_table.l0]
    rw [if_pos (by omega)]
    have inner : ∀ (e k j : Nat), j + e = C → d * (C + 3) + 1 + e < k → impl_table.l1 k (C : Int) is (i : Int) (R : Int) (i : Int) (C : Int) (j : Int) (R : Int) (C : Int) (part R C p i j) = some ((R : Int), (C : Int), relList R C p) := by
      intro e
      induction e with
      | zero =>
        intro k j hj hk
        obtain ⟨k, rfl⟩ : ∃ m, k = m + 1 := ⟨k - 1, by omega⟩
        simp only [impl_table.l1]
        have e1 : ((i : Int) + 1) = ((i + 1 : Nat) : Int) := by omega
        have e2 : j = C := by omega
        subst e2
        rw [if_neg (by omega), wrap_ok (by omega) (by omega), e1, part_next]
        exact ih k (i + 1) (by omega) (by omega)
      | succ e ihe =>
        intro k j hj hk
        obtain ⟨k, rfl⟩ : ∃ m, k = m + 1 := ⟨k - 1, by omega⟩
        simp only [impl_table.l1]
        have e1 : ((j : Int) + 1) = ((j + 1 : Nat) : Int) := by omega
        have e3 : (i : Int).toNat = i := by omega
        rw [if_pos (by omega), h i j (by omega) (by omega), wrap_ok (by omega) (by omega), e1, e3]
        simp only [Option.bind_some]
        cases hp : p i j
        · rw [if_neg (by simp), part_skip R C p i j hp]
          exact ihe k (j + 1) (by omega) (by omega)
        · rw [if_pos rfl, if_pos (by omega), if_pos (by rw [part_length]; omega), if_pos (by omega), part_rd R C p i j (by omega), or_shl _ j (Nat.lt_of_lt_of_le (bitsum_lt (p i) j) (Nat.pow_le_pow_right (by omega) (by omega))) (by omega), part_set R C p i j (by omega) hp]
          exact ihe k (j + 1) (by omega) (by omega)
    exact inner C k 0 (by omega) (by omega)
/-- The table of what is told of each cell. -/
theorem table_k (R C : Nat) (hR : R ≤ 60) (hC : C ≤ 60) (is : Int → Int → Option Bool) (p : Nat → Nat → Bool) (h : ∀ i j : Nat, i < R → j < C → is i j = some (p i j)) (k : Nat) (hk : R * (C + 3) < k) :
    impl_table.f k (R : Int) (C : Int) is = some ((R : Int), (C : Int), relList R C p) := by
  unfold impl_table.f
  rw [if_pos (by omega), if_pos (by omega)]
  have e : ((R : Int)).toNat = R := by omega
  rw [e, part_start R C p]
  exact table_l0 R C hR hC is p h R k 0 (by omega) hk

theorem markTable_k (R C : Int) (l : List Int) (hl : l.length ≤ 1048576) (k : Nat) (hk : l.length < k) : laws_markTable.f k R C l 1 = some (1 + (l.length : Int), iota 1 l.length) := by
  unfold laws_markTable.f
  rw [markIntS_k l 1 (by omega) (by omega) k hk]
  rfl
theorem heldTable_k (R C : Int) (m : Nat) (hl : m ≤ 1048576) (k : Nat) (hk : m < k) : laws_heldTable.f k R C (iota 1 m) 1 = some (1 + (m : Int)) := by
  unfold laws_heldTable.f
  rw [heldIntS_k 1 m (by omega) (by omega) k hk]
  simp only [Option.bind_some]
  rw [if_neg (by omega)]

theorem inRise_nat (l : List Int) (m : Nat) (h : InRise l 0 ((m : Int) - 1) 0) : ∃ rs : List Nat, l = rs.map (fun (x : Nat) => (x : Int)) ∧ ∀ j, j < rs.length → rs.getD j 0 < m := by
  refine ⟨l.map Int.toNat, ?_, ?_⟩
  · rw [List.map_map]
    apply List.ext_getElem
    · simp
    · intro j h1 h2
      have := (h j (by omega) h1).1
      rw [List.getD_eq_getElem?_getD, List.getElem?_eq_getElem h1] at this
      simp at this ⊢
      omega
  · intro j hj
    have hj2 : j < l.length := by simpa using hj
    have := (h j (by omega) hj2).1
    rw [List.getD_eq_getElem?_getD, List.getElem?_eq_getElem hj2] at this
    rw [List.getD_eq_getElem?_getD, List.getElem?_eq_getElem hj]
    simp at this ⊢
    omega
theorem inRise_iff (l : List Int) (b : Int) : InRise l 0 b 0 ↔ allIn l 0 b = true ∧ Rising l := by
  rw [allIn_iff]
  constructor
  · intro h
    refine ⟨fun x hx => ?_, fun j h1 h2 => (h j (by omega) h2).2 h1⟩
    obtain ⟨j, hj, rfl⟩ := List.getElem_of_mem hx
    have := (h j (by omega) hj).1
    rw [List.getD_eq_getElem?_getD, List.getElem?_eq_getElem hj] at this
    exact this
  · rintro ⟨h1, h2⟩ j _ hj
    refine ⟨?_, fun h => h2 j h hj⟩
    rw [List.getD_eq_getElem?_getD, List.getElem?_eq_getElem hj]
    exact h1 _ (List.getElem_mem hj)
/-- Is the column's element better than the row's? -/
def ooP (ms rs cs : List Nat) (r c : Nat) : Bool := (ms.getD (rs.getD r 0) 0).testBit (cs.getD c 0)
theorem tableOfOrder_1 (m : Nat) (hm : m ≤ 10) (ms rs cs : List Nat) (hl : ms.length = m) (hb : ∀ x ∈ ms, x < 2 ^ m) (hr : ∀ j, j < rs.length → rs.getD j 0 < m) (hc : ∀ j, j < cs.length → cs.getD j 0 < m) (i j : Nat) (hi : i < rs.length) (hj : j < cs.length) :
    impl_TableOfOrder_1.f (i : Int) (j : Int) (m : Int) (ms.map (fun (x : Nat) => (x : Int))) (rs.map (fun (x : Nat) => (x : Int))) (cs.map (fun (x : Nat) => (x : Int))) = some (ooP ms rs cs i j) := by
  unfold impl_TableOfOrder_1.f ooP
  have lr : ((rs.map (fun (x : Nat) => (x : Int))).length : Int) = (rs.length : Int) := by simp
  have lc : ((cs.map (fun (x : Nat) => (x : Int))).length : Int) = (cs.length : Int) := by simp
  have lm : (ms.map (fun (x : Nat) => (x : Int))).length = m := by simp [hl]
  have a1 := hr i hi
  have a2 := hc j hj
  have a3 := getD_lt (Nat.two_pow_pos m) hb (rs.getD i 0)
  have h2 : 2 ^ m ≤ 2 ^ 10 := Nat.pow_le_pow_right (by omega) hm
  rw [if_pos (by omega), if_pos (by omega), if_pos (by omega), if_pos (by omega), rd_map, rd_map, better_k (m : Int) _ _ _ _ (by omega) (rd_map ms _) (by omega) (by omega)]
  rfl
theorem tableOfOrder_l0 (m : Nat) (hm : m ≤ 10) (ms rs cs : List Nat) (hl : ms.length = m) (hb : ∀ x ∈ ms, x < 2 ^ m) (hr : ∀ j, j < rs.length → rs.getD j 0 < m) (hc : ∀ j, j < cs.length → cs.getD j 0 < m) (hrl : rs.length ≤ 6) (hcl : cs.length ≤ 6) : ∀ (d k i : Nat), i + d = rs.length → d * (cs.length + 3) < k →
    spec_TableOfOrder.l0 k (cs.map (fun (x : Nat) => (x : Int))) (rs.map (fun (x : Nat) => (x : Int))) (rs.length : Int) (i : Int) (m : Int) (ms.map (fun (x : Nat) => (x : Int))) (rs.length : Int) (cs.length : Int) ((List.range i).map (fun r => ((bitsum (ooP ms rs cs r) cs.length : Nat) : Int))) = some ((rs.length : Int), (cs.length : Int), relList rs.length cs.length (ooP ms rs cs), true) := by
  intro d
  have lr : ((rs.map (fun (x : Nat) => (x : Int))).length : Int) = (rs.length : Int) := by simp
  have lc : ((cs.map (fun (x : Nat) => (x : Int))).length : Int) = (cs.length : Int) := by simp
  have lm : ((ms.map (fun (x : Nat) => (x : Int))).length : Int) = (m : Int) := by simp [hl]
  induction d with
  | zero =>
    intro k i hi hk
    obtain ⟨k, rfl⟩ : ∃ m, k = m + 1 := ⟨k - 1, by omega⟩
    simp only [spec_TableOfOrder.l0]
    have e : i = rs.length := by omega
    rw [if_neg (by omega), e]
    rfl
  | succ d ih =>
    intro k i hi hk
    rw [Nat.succ_mul] at hk
    obtain ⟨k, rfl⟩ : ∃ m, k = m + 1 := ⟨k - 1, by omega⟩
    simp only [spec_TableOfOrder.l0]
    have a1 := hr i (by omega)
    rw [if_pos (by omega), if_pos (by omega), if_pos (by omega), rd_map, lc]
    have inner : ∀ (e k j : Nat), j + e = cs.length → d * (cs.length + 3) + 1 + e < k → spec_TableOfOrder.l1 k (cs.map (fun (x : Nat) => (x : Int))) ((rs.getD i 0 : Nat) : Int) ((bitsum (ooP ms rs cs i) j : Nat) : Int) (rs.map (fun (x : Nat) => (x : Int))) (rs.length : Int) (i : Int) (cs.map (fun (x : Nat) => (x : Int))) (cs.length : Int) (j : Int) (m : Int) (ms.map (fun (x : Nat) => (x : Int))) (rs.length : Int) (cs.length : Int) ((List.range i).map (fun r => ((bitsum (ooP ms rs cs r) cs.length : Nat) : Int))) = some ((rs.length : Int), (cs.length : Int), relList rs.length cs.length (ooP ms rs cs), true) := by
      intro e
      induction e with
      | zero =>
        intro k j hj hk
        obtain ⟨k, rfl⟩ : ∃ m, k = m + 1 := ⟨k - 1, by omega⟩
        simp only [spec_TableOfOrder.l1]
        have e2 : j = cs.length := by omega
        have next := ih k (i + 1) (by omega) (by omega)
        rw [List.range_succ, List.map_append] at next
        rw [if_neg (by omega), if_pos (by simp; omega), wrap_ok (by omega) (by omega), show ((i : Int) + 1) = ((i + 1 : Nat) : Int) by omega, e2]
        exact next
      | succ e ihe =>
        intro k j hj hk
        obtain ⟨k, rfl⟩ : ∃ m, k = m + 1 := ⟨k - 1, by omega⟩
        simp only [spec_TableOfOrder.l1]
        have next := ihe k (j + 1) (by omega) (by omega)
        have a2 := hc j (by omega)
        have ep : (ms.getD (rs.getD i 0) 0).testBit (cs.getD j 0) = ooP ms rs cs i j := rfl
        rw [if_pos (by omega), if_pos (by omega), if_pos (by omega), if_pos (Int.natCast_nonneg _), lm, if_pos (Int.ofNat_lt.2 a1), rd_map, rd_map, orHas_k _ _ (by omega), ep, wrap_ok (by omega) (by omega), show ((j : Int) + 1) = ((j + 1 : Nat) : Int) by omega, or_shl _ j (Nat.lt_of_lt_of_le (bitsum_lt (ooP ms rs cs i) j) (Nat.pow_le_pow_right (by omega) (by omega))) (by omega)]
        simp only [Option.bind_some]
        rw [bitsum] at next
        cases hp : ooP ms rs cs i j
        · rw [if_neg (by simp)]
          rw [hp] at next
          simpa using next
        · rw [if_pos rfl]
          rw [hp] at next
          simpa using next
    exact inner cs.length k 0 (by omega) (by omega)
theorem FnExactTableOfOrder : laws_FnExactTableOfOrder.Pure := by
  intro n l A B _ hm _ _ _ _ _ _ _
  by_cases hA : A.length ≤ 1048576
  · by_cases hB : B.length ≤ 1048576
    · by_cases h : (l.length : Int) ≤ 1048576
      · refine ⟨l.length + A.length + B.length + 900, ?_⟩
        have H : ∃ a b y z, y.length ≤ 6 ∧ (∀ k, l.length + A.length + B.length + 700 < k → impl_TableOfOrder.f k n l A B = some (a, b, y, z)) ∧ (∀ k, l.length + A.length + B.length + 700 < k → spec_TableOfOrder.f k n l A B = some (a, b, y, z)) := by
          obtain ⟨o, ho, hd⟩ := order_both n l (by omega)
          by_cases hv : o = true ∧ (1 ≤ (A.length : Int) ∧ (A.length : Int) ≤ 6) ∧ (1 ≤ (B.length : Int) ∧ (B.length : Int) ≤ 6) ∧ InRise A 0 (wrap64 (n - 1)) 0 ∧ InRise B 0 (wrap64 (n - 1)) 0
          · obtain ⟨ho1, w1, w2, r1, r2⟩ := hv
            obtain ⟨m, ms, rfl, rfl, h1, h2, h3, _⟩ := hd ho1
            have ew : wrap64 ((m : Int) - 1) = (m : Int) - 1 := wrap_ok (by omega) (by omega)
            have q1 := (inRise_iff A _).1 r1
            have q2 := (inRise_iff B _).1 r2
            rw [ew] at r1 r2 q1 q2
            obtain ⟨rs, rfl, hr⟩ := inRise_nat A m r1
            obtain ⟨cs, rfl, hc⟩ := inRise_nat B m r2
            have lr : (rs.map (fun (x : Nat) => (x : Int))).length = rs.length := by simp
            have lc : (cs.map (fun (x : Nat) => (x : Int))).length = cs.length := by simp
            have hAB : rs.length * (cs.length + 3) ≤ 6 * 9 := Nat.mul_le_mul (by omega) (by omega)
            refine ⟨(rs.length : Int), (cs.length : Int), relList rs.length cs.length (ooP ms rs cs), true, by rw [relList_length]; omega, fun k hk => ?_, fun k hk => ?_⟩
            · unfold impl_TableOfOrder.f
              rw [(ho k (by omega)).1, ho1]
              obtain ⟨k, rfl⟩ : ∃ q, k = q + 1 := ⟨k - 1, by omega⟩
              obtain ⟨b1, hb1, hb1'⟩ := isIncreasing_k (rs.map (fun (x : Nat) => (x : Int))) (by omega) k (by omega)
              obtain ⟨b2, hb2, hb2'⟩ := isIncreasing_k (cs.map (fun (x : Nat) => (x : Int))) (by omega) k (by omega)
              obtain rfl : b1 = true := hb1'.2 q1.2
              obtain rfl : b2 = true := hb2'.2 q2.2
              simp only [within_eq, w1, w2, and_self, decide_true, Option.bind_some, if_true, impl_TableOfOrder.j0, Bool.not_true, Bool.false_eq_true, if_false, impl_Order_has.f, ew]
              rw [allWithin_k _ _ _ (by omega) k (by omega), allWithin_k _ _ _ (by omega) k (by omega), q1.1, q2.1]
              simp only [Option.bind_some, if_true, hb1, hb2]
              rw [lr, lc, table_k rs.length cs.length (by omega) (by omega) _ (ooP ms rs cs) (fun i j hi hj => tableOfOrder_1 m h1 ms rs cs h2 h3 hr hc i j hi hj) k (by omega)]
              rfl
            · unfold spec_TableOfOrder.f
              rw [(ho k (by omega)).2, ho1]
              obtain ⟨b1, hb1, hb1'⟩ := rising_k (rs.map (fun (x : Nat) => (x : Int))) 0 ((m : Int) - 1) (by omega) k (by omega)
              obtain ⟨b2, hb2, hb2'⟩ := rising_k (cs.map (fun (x : Nat) => (x : Int))) 0 ((m : Int) - 1) (by omega) k (by omega)
              obtain rfl : b1 = true := hb1'.2 r1
              obtain rfl : b2 = true := hb2'.2 r2
              obtain ⟨k, rfl⟩ : ∃ q, k = q + 1 := ⟨k - 1, by omega⟩
              simp only [l1In_eq, w1, w2, and_self, decide_true, Option.bind_some, if_true, ew, hb1, hb2, spec_TableOfOrder.j0, Bool.not_true, Bool.false_eq_true, if_false]
              rw [lr, lc]
              exact tableOfOrder_l0 m h1 ms rs cs h2 h3 hr hc (by omega) (by omega) rs.length k 0 (by omega) (by omega)
          · refine ⟨0, 0, [], false, by simp, fun k hk => ?_, fun k hk => ?_⟩
            · unfold impl_TableOfOrder.f
              rw [(ho k (by omega)).1]
              obtain ⟨k, rfl⟩ : ∃ q, k = q + 1 := ⟨k - 1, by omega⟩
              obtain ⟨b1, hb1, hb1'⟩ := isIncreasing_k A (by omega) k (by omega)
              obtain ⟨b2, hb2, hb2'⟩ := isIncreasing_k B (by omega) k (by omega)
              simp only [within_eq, Option.bind_some, impl_TableOfOrder.j0, impl_Order_has.f, allWithin_k A _ _ (show A.length ≤ 4611686018427387904 by omega) k (by omega), allWithin_k B _ _ (show B.length ≤ 4611686018427387904 by omega) k (by omega), hb1, hb2]
              rw [inRise_iff, inRise_iff, ← hb1', ← hb2'] at hv
              by_cases w1 : 1 ≤ (A.length : Int) ∧ (A.length : Int) ≤ 6
              · by_cases w2 : 1 ≤ (B.length : Int) ∧ (B.length : Int) ≤ 6
                · cases o
                  · simp
                  · cases h3 : allIn A 0 (wrap64 (n - 1))
                    · simp [w1, w2]
                    · cases h4 : allIn B 0 (wrap64 (n - 1))
                      · simp [w1, w2]
                      · cases b1
                        · simp [w1, w2]
                        · cases b2
                          · simp [w1, w2]
                          · exact absurd ⟨rfl, w1, w2, ⟨h3, rfl⟩, ⟨h4, rfl⟩⟩ hv
                · cases o <;> simp [w1, w2]
              · cases o <;> simp [w1]
            · unfold spec_TableOfOrder.f
              rw [(ho k (by omega)).2]
              obtain ⟨b1, hb1, hb1'⟩ := rising_k A 0 (wrap64 (n - 1)) (by omega) k (by omega)
              obtain ⟨b2, hb2, hb2'⟩ := rising_k B 0 (wrap64 (n - 1)) (by omega) k (by omega)
              obtain ⟨k, rfl⟩ : ∃ q, k = q + 1 := ⟨k - 1, by omega⟩
              simp only [l1In_eq, Option.bind_some, spec_TableOfOrder.j0, hb1, hb2]
              rw [← hb1', ← hb2'] at hv
              by_cases w1 : 1 ≤ (A.length : Int) ∧ (A.length : Int) ≤ 6
              · by_cases w2 : 1 ≤ (B.length : Int) ∧ (B.length : Int) ≤ 6
                · cases o
                  · simp
                  · cases b1
                    · simp [w1, w2]
                    · cases b2
                      · simp [w1, w2]
                      · exact absurd ⟨rfl, w1, w2, rfl, rfl⟩ hv
                · cases o <;> simp [w1, w2]
              · cases o <;> simp [w1]
        obtain ⟨a, b, y, z, hy, hI, hS⟩ := H
        unfold laws_FnExactTableOfOrder.f
        rw [if_neg (by omega), if_neg (by omega), szOrder_eq n l _ (by omega) hm, if_pos h]
        simp only [Option.bind_some]
        rw [if_neg (by omega)]
        repeat (first
          | (rw [toOrder_k _ _ (by omega) _ (by omega)]; simp only [Option.bind_some])
          | (rw [toIntS_k A hA _ (by omega)]; simp only [Option.bind_some])
          | (rw [toIntS_k B hB _ (by omega)]; simp only [Option.bind_some])
          | (rw [hS _ (by omega)]; simp only [Option.bind_some])
          | (rw [hI _ (by omega)]; simp only [Option.bind_some])
          | (rw [eqOrder_k _ _ (by omega) _ (by omega)]; simp only [Option.bind_some])
          | (rw [eqTable_k _ _ _ (by omega) _ (by omega)]; simp only [Option.bind_some])
          | (rw [eqIntS_k _ (by omega) _ (by omega)]; simp only [Option.bind_some])
          | (rw [markOrder_k _ _ (by omega) _ (by omega)]; simp only [Option.bind_some])
          | (rw [markIntS_k A _ (by omega) (by omega) _ (by omega)]; simp only [Option.bind_some])
          | (rw [markIntS_k B _ (by omega) (by omega) _ (by omega)]; simp only [Option.bind_some])
          | (rw [markTable_k _ _ _ (by omega) _ (by omega)]; simp only [Option.bind_some])
          | (rw [heldTable_k _ _ _ (by omega) _ (by omega)]; simp only [Option.bind_some])
          | (simp only [if_true, Bool.false_eq_true, if_false, bne_self_eq_false, if_neg (one_add_nonneg _), if_pos rfl]; done)
          | (rw [if_neg (one_add_nonneg _)])
          | (rw [laws_FnExactTableOfOrder.j0]; simp only [Bool.false_eq_true, if_false, if_true])
          | (rw [laws_FnExactTableOfOrder.j1]; simp only [Bool.false_eq_true, if_false, if_true])
          | (rw [laws_FnExactTableOfOrder.j2]; simp only [Bool.false_eq_true, if_false, if_true])
          | (simp only [if_true, Bool.false_eq_true, if_false, bne_self_eq_false])
          | (rw [if_neg (by omega)]))
      · refine ⟨1, ?_⟩
        unfold laws_FnExactTableOfOrder.f
        rw [if_neg (by omega), if_neg (by omega), szOrder_eq n l _ (by omega) hm, if_neg h]
        simp
    · refine ⟨1, ?_⟩
      unfold laws_FnExactTableOfOrder.f
      rw [if_neg (by omega), if_pos (by omega)]
  · refine ⟨1, ?_⟩
    unfold laws_FnExactTableOfOrder.f
    rw [if_pos (by omega)]

end Go.Proofs.YtpippjgphndjmaaDoor.Pure
