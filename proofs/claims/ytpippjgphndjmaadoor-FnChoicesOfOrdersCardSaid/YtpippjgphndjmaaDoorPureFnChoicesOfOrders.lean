/- Choices of orders: for every two texts the law is true; no condition. -/
import Derived.Test.YtpippjgphndjmaaDoorPFnChoicesOfOrdersx8
namespace Go.Proofs.YtpippjgphndjmaaDoor.Pure
open Go.RowKit Go.Proofs.YtpippjgphndjmaaDoor.PFnChoicesOfOrders Go.Proofs.YtpippjgphndjmaaDoorW.PrintWords Go.Proofs.YtpippjgphndjmaaDoorW.PrintLast Go.Proofs.YtpippjgphndjmaaDoorW.PrintMore
set_option linter.unusedVariables false
set_option linter.unusedSimpArgs false

theorem wrap_ok {x : Int} (h0 : -9223372036854775808 ≤ x) (h1 : x < 9223372036854775808) : wrap64 x = x := by unfold wrap64; omega
theorem wf_bounds {x : Int} (h : (Lit.int .i64 x).wf = true) : -9223372036854775808 ≤ x ∧ x < 9223372036854775808 := by
  have e : IntKind.i64.min ≤ x ∧ x ≤ 9223372036854775807 := by simpa [Lit.wf] using h
  have m : IntKind.i64.min = -9223372036854775808 := by decide
  omega
theorem rd_nat (l : List Int) (i : Nat) : rd l (i : Int) = l.getD i 0 := by simp [rd]

theorem within_eq (a b c : Int) : impl_within.f a b c = some (decide (b ≤ a ∧ a ≤ c)) := by
  unfold impl_within.f
  by_cases h : a ≥ b <;> simp [h] <;> omega
theorem l1In_eq (a b c : Int) : spec_l1In.f a b c = some (decide (b ≤ a ∧ a ≤ c)) := by
  unfold spec_l1In.f
  by_cases h : a ≥ b <;> simp [h] <;> omega

def allIn (l : List Int) (a b : Int) : Bool := l.all fun x => decide (a ≤ x ∧ x ≤ b)
theorem getD_drop (l : List Int) (i : Nat) (h : i < l.length) : l.drop i = l.getD i 0 :: l.drop (i + 1) := by
  rw [List.drop_eq_getElem_cons h]
  simp [h]
theorem allWithin_l0 (l : List Int) (a b : Int) (hl : l.length ≤ 4611686018427387904) : ∀ (d k i : Nat), i + d = l.length → d < k → impl_allWithin.l0 k a b l (l.length : Int) (i : Int) = some (allIn (l.drop i) a b) := by
  intro d
  induction d with
  | zero =>
    intro k i h hk
    obtain ⟨k, rfl⟩ : ∃ m, k = m + 1 := ⟨k - 1, by omega⟩
    simp only [impl_allWithin.l0]
    rw [if_neg (by omega), List.drop_eq_nil_of_le (by omega)]
    rfl
  | succ d ih =>
    intro k i h hk
    obtain ⟨k, rfl⟩ : ∃ m, k = m + 1 := ⟨k - 1, by omega⟩
    simp only [impl_allWithin.l0]
    rw [if_pos (by omega), if_pos (by omega), if_pos (by omega), wrap_ok (by omega) (by omega), within_eq, getD_drop l i (by omega), rd_nat]
    have e : ((i : Int) + 1) = ((i + 1 : Nat) : Int) := by omega
    rw [e, ih k (i + 1) (by omega) (by omega)]
    simp only [Option.bind_some, allIn, List.all_cons]
    cases decide (a ≤ l.getD i 0 ∧ l.getD i 0 ≤ b) <;> simp
theorem allWithin_k (l : List Int) (a b : Int) (hl : l.length ≤ 4611686018427387904) (k : Nat) (hk : l.length < k) : impl_allWithin.f k l a b = some (allIn l a b) := by
  unfold impl_allWithin.f
  exact allWithin_l0 l a b hl l.length k 0 (by omega) hk
theorem l1All_l0 (l : List Int) (a b : Int) (hl : l.length ≤ 4611686018427387904) : ∀ (d k i : Nat), i + d = l.length → d < k → spec_l1All.l0 k a b l (l.length : Int) (i : Int) = some (allIn (l.drop i) a b) := by
  intro d
  induction d with
  | zero =>
    intro k i h hk
    obtain ⟨k, rfl⟩ : ∃ m, k = m + 1 := ⟨k - 1, by omega⟩
    simp only [spec_l1All.l0]
    rw [if_neg (by omega), List.drop_eq_nil_of_le (by omega)]
    rfl
  | succ d ih =>
    intro k i h hk
    obtain ⟨k, rfl⟩ : ∃ m, k = m + 1 := ⟨k - 1, by omega⟩
    simp only [spec_l1All.l0]
    rw [if_pos (by omega), if_pos (by omega), if_pos (by omega), wrap_ok (by omega) (by omega), l1In_eq, getD_drop l i (by omega), rd_nat]
    have e : ((i : Int) + 1) = ((i + 1 : Nat) : Int) := by omega
    rw [e, ih k (i + 1) (by omega) (by omega)]
    simp only [Option.bind_some, allIn, List.all_cons]
    cases decide (a ≤ l.getD i 0 ∧ l.getD i 0 ≤ b) <;> simp
theorem l1All_k (l : List Int) (a b : Int) (hl : l.length ≤ 4611686018427387904) (k : Nat) (hk : l.length < k) : spec_l1All.f k l a b = some (allIn l a b) := by
  unfold spec_l1All.f
  exact l1All_l0 l a b hl l.length k 0 (by omega) hk

/-! Sets as numbers. -/
def andn (a b : Nat) : Nat := a ^^^ (a &&& b)
theorem andn_bit (a b i : Nat) : (andn a b).testBit i = (a.testBit i && !b.testBit i) := by
  unfold andn
  rw [Nat.testBit_xor, Nat.testBit_and]
  cases a.testBit i <;> cases b.testBit i <;> rfl
theorem wrap_i64_nat (n : Nat) (h : n < 2 ^ 63) : IntKind.i64.wrap (n : Int) = (n : Int) := by
  rw [IntKind.wrap_i64]
  have : (n : Int) < 9223372036854775808 := by omega
  omega
theorem ofInt_toNat (n : Nat) (h : n < 2 ^ 63) : (BitVec.ofInt 64 (n : Int)).toNat = n := by
  rw [BitVec.ofInt_natCast, BitVec.toNat_ofNat, Nat.mod_eq_of_lt (by omega)]
theorem and_nat (a b : Nat) (ha : a < 2 ^ 63) (hb : b < 2 ^ 63) : Go.bits .and .i64 (a : Int) (b : Int) = ((a &&& b : Nat) : Int) := by
  unfold Go.bits
  show IntKind.i64.wrap ((BitVec.ofInt 64 (a : Int) &&& BitVec.ofInt 64 (b : Int)).toNat : Int) = _
  rw [BitVec.toNat_and, ofInt_toNat a ha, ofInt_toNat b hb]
  exact wrap_i64_nat _ (Nat.lt_of_le_of_lt Nat.and_le_left ha)
theorem or_nat (a b : Nat) (ha : a < 2 ^ 63) (hb : b < 2 ^ 63) : Go.bits .or .i64 (a : Int) (b : Int) = ((a ||| b : Nat) : Int) := by
  unfold Go.bits
  show IntKind.i64.wrap ((BitVec.ofInt 64 (a : Int) ||| BitVec.ofInt 64 (b : Int)).toNat : Int) = _
  rw [BitVec.toNat_or, ofInt_toNat a ha, ofInt_toNat b hb]
  exact wrap_i64_nat _ (Nat.or_lt_two_pow ha hb)
theorem xor_nat (a b : Nat) (ha : a < 2 ^ 63) (hb : b < 2 ^ 63) : Go.bits .xor .i64 (a : Int) (b : Int) = ((a ^^^ b : Nat) : Int) := by
  unfold Go.bits
  show IntKind.i64.wrap ((BitVec.ofInt 64 (a : Int) ^^^ BitVec.ofInt 64 (b : Int)).toNat : Int) = _
  rw [BitVec.toNat_xor, ofInt_toNat a ha, ofInt_toNat b hb]
  exact wrap_i64_nat _ (Nat.xor_lt_two_pow ha hb)
theorem andn_le (a b : Nat) : andn a b ≤ a := Nat.le_of_testBit fun i h => by
  rw [andn_bit] at h
  cases h1 : a.testBit i
  · simp [h1] at h
  · rfl
theorem andNot_nat (a b : Nat) (ha : a < 2 ^ 63) (hb : b < 2 ^ 63) : Go.bits .andNot .i64 (a : Int) (b : Int) = ((andn a b : Nat) : Int) := by
  unfold Go.bits
  show IntKind.i64.wrap ((BitVec.ofInt 64 (a : Int) &&& ~~~ BitVec.ofInt 64 (b : Int)).toNat : Int) = _
  have e : (BitVec.ofInt 64 (a : Int) &&& ~~~ BitVec.ofInt 64 (b : Int)).toNat = andn a b := by
    apply Nat.eq_of_testBit_eq
    intro i
    rw [andn_bit, BitVec.toNat_and, Nat.testBit_and, ofInt_toNat a ha, BitVec.testBit_toNat, BitVec.getLsbD_not, BitVec.ofInt_natCast, BitVec.getLsbD_ofNat]
    by_cases hi : i < 64
    · rw [decide_eq_true hi]
      simp only [Bool.true_and]
    · have : a.testBit i = false := Nat.testBit_lt_two_pow (Nat.lt_of_lt_of_le ha (Nat.pow_le_pow_right (by omega) (by omega)))
      simp [this]
  rw [e]
  exact wrap_i64_nat _ (Nat.lt_of_le_of_lt (andn_le a b) ha)
theorem andn_zero (a b : Nat) : andn a b = 0 ↔ ∀ i, a.testBit i = true → b.testBit i = true := by
  constructor
  · intro h i hi
    have := andn_bit a b i
    rw [h, hi] at this
    cases hb : b.testBit i
    · simp [hb] at this
    · rfl
  · intro h
    apply Nat.eq_of_testBit_eq
    intro i
    rw [andn_bit]
    cases ha : a.testBit i
    · simp
    · simp [h i ha]
theorem andn_zero_le {a b : Nat} (h : andn a b = 0) : a ≤ b := Nat.le_of_testBit fun i hi => (andn_zero a b).1 h i hi
theorem andNot_le {p i : Int} (h0 : 0 ≤ p) (h1 : 0 ≤ i) (hp : p < 9223372036854775808) (hi : i < 9223372036854775808) (h : Go.bits .andNot .i64 p i = 0) : p ≤ i := by
  obtain ⟨a, rfl⟩ := Int.eq_ofNat_of_zero_le h0
  obtain ⟨b, rfl⟩ := Int.eq_ofNat_of_zero_le h1
  rw [andNot_nat a b (by omega) (by omega)] at h
  have := andn_zero_le (a := a) (b := b) (by omega)
  omega

/-- The set of the j < n for which q tells true. -/
def bitsum (q : Nat → Bool) : Nat → Nat
  | 0 => 0
  | j + 1 => bitsum q j ||| (if q j then 2 ^ j else 0)
theorem bitsum_lt (q : Nat → Bool) (n : Nat) : bitsum q n < 2 ^ n := by
  induction n with
  | zero => simp [bitsum]
  | succ n ih =>
    rw [bitsum]
    apply Nat.or_lt_two_pow
    · exact Nat.lt_of_lt_of_le ih (Nat.pow_le_pow_right (by omega) (by omega))
    · split
      · exact Nat.pow_lt_pow_right (by omega) (by omega)
      · exact Nat.two_pow_pos _
theorem bitsum_bit (q : Nat → Bool) (n i : Nat) : (bitsum q n).testBit i = (decide (i < n) && q i) := by
  induction n with
  | zero => simp [bitsum]
  | succ n ih =>
    rw [bitsum, Nat.testBit_or, ih]
    by_cases e : i = n
    · subst e
      cases h : q i <;> simp [Nat.testBit_two_pow_self]
    · have : (if q n then 2 ^ n else 0).testBit i = false := by
        split
        · rw [Nat.testBit_two_pow_of_ne (by omega)]
        · simp
      rw [this]
      by_cases h : i < n
      · simp [h, show i < n + 1 by omega]
      · simp [h, show ¬ i < n + 1 by omega]
theorem bitsum_congr {q q' : Nat → Bool} (n : Nat) (h : ∀ i, i < n → q i = q' i) : bitsum q n = bitsum q' n := by
  induction n with
  | zero => rfl
  | succ n ih => rw [bitsum, bitsum, ih (fun i hi => h i (by omega)), h n (by omega)]
theorem shl_one (j : Nat) (h : j < 62) : shl .i64 1 (j : Int) = ((2 ^ j : Nat) : Int) := by
  unfold shl
  have e : min (j : Int).toNat IntKind.i64.bits = j := by
    show min (j : Int).toNat 64 = j
    omega
  rw [e]
  have e2 : (1 : Int) * 2 ^ j = ((2 ^ j : Nat) : Int) := by simp
  rw [e2]
  exact wrap_i64_nat _ (Nat.pow_lt_pow_right (by omega) (by omega))
theorem or_shl (a j : Nat) (ha : a < 2 ^ 62) (hj : j < 62) : Go.bits .or .i64 (a : Int) (shl .i64 1 (j : Int)) = ((a ||| 2 ^ j : Nat) : Int) := by
  rw [shl_one j hj]
  exact or_nat a _ (Nat.lt_of_lt_of_le ha (by decide)) (Nat.pow_lt_pow_right (by omega) (by omega))
/-- The rows' sets. -/
def relList (R C : Nat) (p : Nat → Nat → Bool) : List Int := (List.range R).map fun i => ((bitsum (p i) C : Nat) : Int)
theorem relList_length (R C : Nat) (p : Nat → Nat → Bool) : (relList R C p).length = R := by simp [relList]
theorem relList_congr {R C : Nat} {p p' : Nat → Nat → Bool} (h : ∀ i j, i < R → j < C → p i j = p' i j) : relList R C p = relList R C p' := by
  unfold relList
  apply List.map_congr_left
  intro i hi
  rw [bitsum_congr C (fun j hj => h i j (by simpa using hi) hj)]
/-- A list that is being filled: the first i rows are whole, the row i has the columns < j, the others are 0. -/
def part (R C : Nat) (p : Nat → Nat → Bool) (i j : Nat) : List Int := (List.range R).map fun r => if r < i then ((bitsum (p r) C : Nat) : Int) else if r = i then ((bitsum (p r) j : Nat) : Int) else 0
theorem part_length (R C : Nat) (p : Nat → Nat → Bool) (i j : Nat) : (part R C p i j).length = R := by simp [part]
theorem part_start (R C : Nat) (p : Nat → Nat → Bool) : List.replicate R 0 = part R C p 0 0 := by
  apply List.ext_getElem?
  intro r
  by_cases h : r < R
  · simp [part, h, List.getElem?_replicate, bitsum]
  · rw [List.getElem?_eq_none (by simp; omega), List.getElem?_eq_none (by rw [part_length]; omega)]
theorem part_next (R C : Nat) (p : Nat → Nat → Bool) (i : Nat) : part R C p i C = part R C p (i + 1) 0 := by
  apply List.ext_getElem?
  intro r
  by_cases h : r < R
  · simp only [part, List.getElem?_map, List.getElem?_range h, Option.map_some]
    by_cases h1 : r < i
    · simp [h1, show r < i + 1 by omega]
    · by_cases h2 : r = i
      · simp [h2]
      · simp [h1, h2, show ¬ r < i + 1 by omega, bitsum]
  · rw [List.getElem?_eq_none (by rw [part_length]; omega), List.getElem?_eq_none (by rw [part_length]; omega)]
theorem part_end (R C : Nat) (p : Nat → Nat → Bool) : part R C p R 0 = relList R C p := by
  unfold part relList
  apply List.map_congr_left
  intro r hr
  rw [if_pos (by simpa using hr)]
theorem part_rd (R C : Nat) (p : Nat → Nat → Bool) (i j : Nat) (hi : i < R) : rd (part R C p i j) (i : Int) = ((bitsum (p i) j : Nat) : Int) := by
  rw [rd_nat]
  simp [part, List.getD_eq_getElem?_getD, hi]
theorem part_set (R C : Nat) (p : Nat → Nat → Bool) (i j : Nat) (hi : i < R) (hp : p i j = true) : (part R C p i j).set i ((bitsum (p i) j ||| 2 ^ j : Nat) : Int) = part R C p i (j + 1) := by
  apply List.ext_getElem?
  intro r
  by_cases h : r < R
  · rw [List.getElem?_set]
    simp only [part, List.getElem?_map, List.getElem?_range h, Option.map_some, List.length_map, List.length_range]
    by_cases e : i = r
    · subst e
      simp [h, bitsum, hp]
    · rw [if_neg e]
      simp [show ¬ r = i from fun h => e h.symm]
  · rw [List.getElem?_eq_none (by simp [part_length]; omega), List.getElem?_eq_none (by rw [part_length]; omega)]
theorem part_skip (R C : Nat) (p : Nat → Nat → Bool) (i j : Nat) (hp : p i j = false) : part R C p i j = part R C p i (j + 1) := by
  unfold part
  apply List.map_congr_left
  intro r _
  by_cases h1 : r < i
  · simp [h1]
  · by_cases h2 : r = i
    · subst h2
      simp [bitsum, hp]
    · simp [h1, h2]

/-- A relation, told as data. -/
def isRel (n : Int) (l : List Int) : Bool := decide (0 ≤ n ∧ n ≤ 10) && decide ((l.length : Int) = n) && allIn l 0 (wrap64 (shl .i64 1 n - 1))
theorem IsRelation_k (n : Int) (l : List Int) (hl : l.length ≤ 4611686018427387904) (k : Nat) (hk : l.length < k) : impl_IsRelation.f k n l = some (isRel n l) := by
  unfold impl_IsRelation.f isRel
  simp only [within_eq, Option.bind_some]
  by_cases h1 : 0 ≤ n ∧ n ≤ 10
  · by_cases h3 : (l.length : Int) = n
    · rw [if_pos h3, if_pos (show 0 ≤ n by omega), allWithin_k l _ _ hl k hk]
      simp [h1, h3]
    · rw [if_neg h3]
      simp [h1, h3]
  · simp [h1]
theorem orRelation_k (n : Int) (l : List Int) (hl : l.length ≤ 4611686018427387904) (k : Nat) (hk : l.length < k) : spec_orRelation.f k n l = some (isRel n l) := by
  unfold spec_orRelation.f isRel
  simp only [l1In_eq, Option.bind_some]
  by_cases h1 : 0 ≤ n ∧ n ≤ 10
  · by_cases h3 : (l.length : Int) = n
    · rw [if_pos h3, if_pos (show 0 ≤ n by omega), l1All_k l _ _ hl k hk]
      simp [h1, h3]
    · rw [if_neg h3]
      simp [h1, h3]
  · simp [h1]
theorem allIn_iff (l : List Int) (a b : Int) : allIn l a b = true ↔ ∀ x ∈ l, a ≤ x ∧ x ≤ b := by
  unfold allIn
  rw [List.all_eq_true]
  simp
theorem ones_eq (c : Nat) (h : c ≤ 60) : wrap64 (shl .i64 1 (c : Int) - 1) = ((2 ^ c - 1 : Nat) : Int) := by
  have hp : 0 < 2 ^ c := Nat.two_pow_pos _
  have hq : 2 ^ c ≤ 2 ^ 60 := Nat.pow_le_pow_right (by omega) h
  rw [shl_one c (by omega), wrap_ok (by omega) (by omega)]
  omega
/-- What a relation is: its size and each element's betters as a number. -/
theorem isRel_iff (n : Int) (l : List Int) : isRel n l = true ↔ ∃ (m : Nat) (ms : List Nat), n = (m : Int) ∧ l = ms.map (fun (x : Nat) => (x : Int)) ∧ m ≤ 10 ∧ ms.length = m ∧ ∀ x ∈ ms, x < 2 ^ m := by
  unfold isRel
  simp only [Bool.and_eq_true, decide_eq_true_eq, allIn_iff]
  constructor
  · rintro ⟨⟨h1, h3⟩, h4⟩
    have ec : n = ((n.toNat : Nat) : Int) := by omega
    have e5 : wrap64 (shl .i64 1 n - 1) = ((2 ^ n.toNat - 1 : Nat) : Int) := by
      rw [ec]
      have := ones_eq n.toNat (by omega)
      have e6 : (((n.toNat : Nat) : Int)).toNat = n.toNat := by omega
      rw [e6]
      exact this
    rw [e5] at h4
    refine ⟨n.toNat, l.map Int.toNat, ec, ?_, by omega, by simp; omega, ?_⟩
    · rw [List.map_map]
      conv => lhs; rw [← List.map_id l]
      apply List.map_congr_left
      intro x hx
      have := h4 x hx
      show x = ((x.toNat : Nat) : Int)
      omega
    · intro x hx
      obtain ⟨y, hy, rfl⟩ := List.mem_map.1 hx
      have := h4 y hy
      have hp : 0 < 2 ^ n.toNat := Nat.two_pow_pos _
      omega
  · rintro ⟨m, ms, rfl, rfl, h1, h2, h3⟩
    have hp : 0 < 2 ^ m := Nat.two_pow_pos _
    refine ⟨⟨by omega, by simp; omega⟩, ?_⟩
    intro x hx
    obtain ⟨y, hy, rfl⟩ := List.mem_map.1 hx
    have := h3 y hy
    rw [ones_eq m (by omega)]
    omega
theorem rd_map (ms : List Nat) (i : Nat) : rd (ms.map (fun (x : Nat) => (x : Int))) (i : Int) = ((ms.getD i 0 : Nat) : Int) := by
  rw [rd_nat]
  simp only [List.getD_eq_getElem?_getD, List.getElem?_map]
  cases ms[i]? <;> simp
theorem getD_lt {ms : List Nat} {b : Nat} (hb : 0 < b) (h : ∀ x ∈ ms, x < b) (i : Nat) : ms.getD i 0 < b := by
  rw [List.getD_eq_getElem?_getD]
  cases hx : ms[i]? with
  | none => simpa using hb
  | some x => exact h x (List.mem_of_getElem? hx)

/-- The bit of a number, as Go asks it. -/
theorem shr_nat (x c : Nat) (hc : c < 64) : shr .i64 (x : Int) (c : Int) = ((x / 2 ^ c : Nat) : Int) := by
  unfold shr
  have e : min (c : Int).toNat IntKind.i64.bits = c := by
    show min (c : Int).toNat 64 = c
    omega
  rw [e]
  simp

theorem bit_and (x c : Nat) (hx : x < 2 ^ 63) (hc : c < 64) : (Go.bits .and .i64 (shr .i64 (x : Int) (c : Int)) 1 == 1) = x.testBit c := by
  rw [shr_nat x c hc]
  have h1 : x / 2 ^ c < 2 ^ 63 := Nat.lt_of_le_of_lt (Nat.div_le_self _ _) hx
  have e : Go.bits .and .i64 ((x / 2 ^ c : Nat) : Int) 1 = ((x / 2 ^ c &&& 1 : Nat) : Int) := and_nat _ 1 h1 (by decide)
  rw [e, Nat.and_one_is_mod]
  have e2 : x.testBit c = decide (x / 2 ^ c % 2 = 1) := Nat.testBit_eq_decide_div_mod_eq
  rw [e2]
  by_cases h : x / 2 ^ c % 2 = 1
  · simp [h]
  · have : x / 2 ^ c % 2 = 0 := by omega
    simp [this]

theorem tmod_nat (n : Nat) : Int.tmod (n : Int) 2 = ((n % 2 : Nat) : Int) := by
  rw [Int.tmod_eq_emod_of_nonneg (by omega)]
  omega
theorem orHas_k (x i : Nat) (hi : i < 64) : spec_orHas.f (x : Int) (i : Int) = some (x.testBit i) := by
  unfold spec_orHas.f
  rw [if_pos (by omega), shr_nat x i hi, tmod_nat]
  have e2 : x.testBit i = decide (x / 2 ^ i % 2 = 1) := Nat.testBit_eq_decide_div_mod_eq
  rw [e2]
  congr 1
  by_cases h : x / 2 ^ i % 2 = 1
  · simp [h]
  · have : x / 2 ^ i % 2 = 0 := by omega
    simp [this]

/-- The elements of a set that are less than m. -/
def elemsTo (x m : Nat) : List Nat := (List.range m).filter x.testBit
theorem elemsTo_succ (x m : Nat) : elemsTo x (m + 1) = elemsTo x m ++ (if x.testBit m = true then [m] else []) := by
  unfold elemsTo
  rw [List.range_succ, List.filter_append]
  by_cases h : x.testBit m = true <;> simp [h]
theorem elemsTo_length (x m : Nat) : (elemsTo x m).length ≤ m := by
  have := List.length_filter_le x.testBit (List.range m)
  simpa [elemsTo] using this
theorem elemsTo_more (x i d : Nat) (h : x < 2 ^ i) : elemsTo x (i + d) = elemsTo x i := by
  induction d with
  | zero => rfl
  | succ d ih =>
    rw [show i + (d + 1) = (i + d) + 1 from rfl, elemsTo_succ, ih]
    have : x.testBit (i + d) = false := Nat.testBit_lt_two_pow (Nat.lt_of_lt_of_le h (Nat.pow_le_pow_right (by omega) (by omega)))
    simp [this]
theorem orList_l0 (x m : Nat) (hx : x < 2 ^ m) (hm : m ≤ 60) : ∀ (d k i : Nat), i + d = m → d < k → spec_orList.l0 k (x : Int) ((elemsTo x i).map (fun (y : Nat) => (y : Int))) (i : Int) = some ((elemsTo x m).map (fun (y : Nat) => (y : Int))) := by
  intro d
  induction d with
  | zero =>
    intro k i hi hk
    obtain ⟨k, rfl⟩ : ∃ q, k = q + 1 := ⟨k - 1, by omega⟩
    have e : i = m := by omega
    subst e
    have h0 : x / 2 ^ i = 0 := Nat.div_eq_of_lt hx
    simp only [spec_orList.l0]
    rw [if_pos (by omega), shr_nat x i (by omega), h0, if_neg (by omega)]
  | succ d ih =>
    intro k i hi hk
    obtain ⟨k, rfl⟩ : ∃ q, k = q + 1 := ⟨k - 1, by omega⟩
    simp only [spec_orList.l0]
    rw [if_pos (by omega), shr_nat x i (by omega)]
    by_cases h0 : x / 2 ^ i = 0
    · rw [h0, if_neg (by omega)]
      have hlt : x < 2 ^ i := by
        have := Nat.div_eq_zero_iff.1 h0
        have hp := Nat.two_pow_pos i
        omega
      have := elemsTo_more x i (d + 1) hlt
      rw [hi] at this
      rw [this]
    · have hl := elemsTo_length x i
      have next := ih k (i + 1) (by omega) (by omega)
      have hpos : ((x / 2 ^ i : Nat) : Int) > 0 := Int.natCast_pos.2 (Nat.pos_of_ne_zero h0)
      rw [if_pos hpos, orHas_k x i (by omega), wrap_ok (by omega) (by omega), show ((i : Int) + 1) = ((i + 1 : Nat) : Int) by omega]
      simp only [Option.bind_some]
      rw [elemsTo_succ] at next
      cases hb : x.testBit i
      · rw [if_neg (by simp)]
        simpa [hb] using next
      · rw [if_pos rfl, if_pos (by simp; omega)]
        simpa [hb] using next
theorem orList_k (x m : Nat) (hx : x < 2 ^ m) (hm : m ≤ 60) (k : Nat) (hk : m < k) : spec_orList.f k (x : Int) = some ((elemsTo x m).map (fun (y : Nat) => (y : Int))) := by
  unfold spec_orList.f
  exact orList_l0 x m hx hm m k 0 (by omega) hk

theorem bit_of_ne {x : Nat} (h : x ≠ 0) : ∃ i, x.testBit i = true := by
  apply Classical.byContradiction
  intro hn
  apply h
  apply Nat.eq_of_testBit_eq
  intro i
  rw [Nat.zero_testBit]
  cases hb : x.testBit i
  · rfl
  · exact absurd ⟨i, hb⟩ hn

theorem better_k (N : Int) (l : List Int) (i j x : Nat) (hi : i < l.length) (hx : rd l (i : Int) = (x : Int)) (hx2 : x < 2 ^ 60) (hj : j < 60) : impl_Order_better.f N l (i : Int) (j : Int) = some (x.testBit j) := by
  unfold impl_Order_better.f
  rw [if_pos (by omega), if_pos (by omega), if_pos (by omega), hx, bit_and x j (by omega) (by omega)]

/-- The relation with paths through the elements before t. -/
def W (ms : List Nat) : Nat → Nat → Nat → Bool
  | 0, i, j => (ms.getD i 0).testBit j
  | t + 1, i, j => W ms t i j || (W ms t i t && W ms t t j)
theorem W_up {ms : List Nat} {t i j : Nat} (h : W ms t i j = true) : W ms (t + 1) i j = true := by simp [W, h]
theorem W_rel {ms : List Nat} {i j : Nat} (h : W ms 0 i j = true) (t : Nat) : W ms t i j = true := by
  induction t with
  | zero => exact h
  | succ t ih => exact W_up ih
theorem W_succ {ms : List Nat} {t i j : Nat} : W ms (t + 1) i j = true ↔ W ms t i j = true ∨ (W ms t i t = true ∧ W ms t t j = true) := by simp [W]
theorem W_mid (ms : List Nat) : ∀ t k i j, k < t → W ms t i k = true → W ms t k j = true → W ms t i j = true := by
  intro t
  induction t with
  | zero => intro k i j h; omega
  | succ t ih =>
    intro k i j hk h1 h2
    rw [W_succ] at h1 h2 ⊢
    by_cases e : k = t
    · subst e
      have g1 : W ms k i k = true := by rcases h1 with h | h; exact h; exact h.1
      have g2 : W ms k k j = true := by rcases h2 with h | h; exact h; exact h.2
      exact Or.inr ⟨g1, g2⟩
    · have hk2 : k < t := by omega
      rcases h1 with h1 | ⟨h1, h1'⟩
      · rcases h2 with h2 | ⟨h2, h2'⟩
        · exact Or.inl (ih k i j hk2 h1 h2)
        · exact Or.inr ⟨ih k i t hk2 h1 h2, h2'⟩
      · rcases h2 with h2 | ⟨h2, h2'⟩
        · exact Or.inr ⟨h1, ih k t j hk2 h1' h2⟩
        · exact Or.inr ⟨h1, h2'⟩
theorem W_min (ms : List Nat) (T : Nat → Nat → Prop) (ht : ∀ i k j, T i k → T k j → T i j) (hr : ∀ i j, W ms 0 i j = true → T i j) : ∀ t i j, W ms t i j = true → T i j := by
  intro t
  induction t with
  | zero => exact hr
  | succ t ih =>
    intro i j h
    rcases W_succ.1 h with h | ⟨h1, h2⟩
    · exact ih i j h
    · exact ht i t j (ih i t h1) (ih t j h2)
theorem W_lt {ms : List Nat} {n : Nat} (hl : ms.length = n) (hb : ∀ x ∈ ms, x < 2 ^ n) : ∀ t i j, W ms t i j = true → i < n ∧ j < n := by
  have h0 : ∀ i j, W ms 0 i j = true → i < n ∧ j < n := by
    intro i j h
    simp only [W] at h
    refine ⟨Nat.lt_of_not_le fun hi => ?_, Nat.lt_of_not_le fun hj => ?_⟩
    · rw [List.getD_eq_getElem?_getD, List.getElem?_eq_none (by omega)] at h
      simp at h
    · have := getD_lt (Nat.two_pow_pos n) hb i
      rw [Nat.testBit_lt_two_pow (Nat.lt_of_lt_of_le this (Nat.pow_le_pow_right (by omega) hj))] at h
      cases h
  intro t
  induction t with
  | zero => exact h0
  | succ t ih =>
    intro i j h
    rcases W_succ.1 h with h | ⟨h1, h2⟩
    · exact ih i j h
    · exact ⟨(ih i t h1).1, (ih t j h2).2⟩
theorem W_trans {ms : List Nat} {n : Nat} (hl : ms.length = n) (hb : ∀ x ∈ ms, x < 2 ^ n) {i k j : Nat} (h1 : W ms n i k = true) (h2 : W ms n k j = true) : W ms n i j = true := W_mid ms n k i j (W_lt hl hb n i k h1).2 h1 h2
theorem W_first {ms : List Nat} {n : Nat} (hl : ms.length = n) (hb : ∀ x ∈ ms, x < 2 ^ n) {i j : Nat} (h : W ms n i j = true) : W ms 0 i j = true ∨ ∃ k, W ms 0 i k = true ∧ W ms n k j = true := by
  have up : ∀ i j, (W ms 0 i j = true ∨ ∃ k, W ms 0 i k = true ∧ W ms n k j = true) → W ms n i j = true := by
    rintro i j (h | ⟨k, h1, h2⟩)
    · exact W_rel h n
    · exact W_trans hl hb (W_rel h1 n) h2
  refine W_min ms (fun i j => W ms 0 i j = true ∨ ∃ k, W ms 0 i k = true ∧ W ms n k j = true) ?_ (fun i j h => Or.inl h) n i j h
  rintro i k j (h1 | ⟨q, h1, h2⟩) h3
  · exact Or.inr ⟨k, h1, up k j h3⟩
  · exact Or.inr ⟨q, h1, W_trans hl hb h2 (up k j h3)⟩
/-- The rows while the paths through t are taken in: those before i are done. -/
def wmix (n : Nat) (ms : List Nat) (t i : Nat) : List Int := (List.range n).map fun r => if r < i then ((bitsum (W ms (t + 1) r) n : Nat) : Int) else ((bitsum (W ms t r) n : Nat) : Int)
theorem wmix_length (n : Nat) (ms : List Nat) (t i : Nat) : (wmix n ms t i).length = n := by simp [wmix]
theorem bitsum_self (x n : Nat) (h : x < 2 ^ n) : bitsum x.testBit n = x := by
  apply Nat.eq_of_testBit_eq
  intro i
  rw [bitsum_bit]
  by_cases hi : i < n
  · simp [hi]
  · rw [Nat.testBit_lt_two_pow (Nat.lt_of_lt_of_le h (Nat.pow_le_pow_right (by omega) (by omega)))]
    simp
theorem wmix_start (n : Nat) (ms : List Nat) (hl : ms.length = n) (hb : ∀ x ∈ ms, x < 2 ^ n) : ms.map (fun (x : Nat) => (x : Int)) = wmix n ms 0 0 := by
  apply List.ext_getElem?
  intro r
  by_cases h : r < n
  · have h2 : r < ms.length := by omega
    have e : bitsum (W ms 0 r) n = ms[r] := by
      have e2 : W ms 0 r = (ms[r]).testBit := by
        funext j
        simp [W, h2]
      rw [e2]
      exact bitsum_self _ _ (hb _ (List.getElem_mem h2))
    simp [wmix, h, h2, e]
  · rw [List.getElem?_eq_none (by simp; omega), List.getElem?_eq_none (by rw [wmix_length]; omega)]
theorem wmix_next (n : Nat) (ms : List Nat) (t : Nat) : wmix n ms t n = wmix n ms (t + 1) 0 := by
  unfold wmix
  apply List.map_congr_left
  intro r hr
  rw [if_pos (by simpa using hr), if_neg (by omega)]
theorem wmix_rd (n : Nat) (ms : List Nat) (t i r : Nat) (hr : r < n) : rd (wmix n ms t i) (r : Int) = if r < i then ((bitsum (W ms (t + 1) r) n : Nat) : Int) else ((bitsum (W ms t r) n : Nat) : Int) := by
  rw [rd_nat]
  simp [wmix, List.getD_eq_getElem?_getD, hr]
theorem W_own (ms : List Nat) (t j : Nat) : W ms (t + 1) t j = W ms t t j := by
  rw [W]
  cases W ms t t j <;> simp
theorem wmix_rd_own (n : Nat) (ms : List Nat) (t i : Nat) (ht : t < n) : rd (wmix n ms t i) (t : Int) = ((bitsum (W ms t t) n : Nat) : Int) := by
  rw [wmix_rd n ms t i t ht]
  have e : W ms (t + 1) t = W ms t t := by
    funext j
    exact W_own ms t j
  rw [e]
  split <;> rfl
theorem wmix_set (n : Nat) (ms : List Nat) (t i : Nat) (h : W ms t i t = true) : (wmix n ms t i).set i ((bitsum (W ms t i) n ||| bitsum (W ms t t) n : Nat) : Int) = wmix n ms t (i + 1) := by
  apply List.ext_getElem?
  intro r
  by_cases hr : r < n
  · rw [List.getElem?_set]
    simp only [wmix, List.getElem?_map, List.getElem?_range hr, Option.map_some, List.length_map, List.length_range]
    by_cases e : i = r
    · subst e
      have e2 : bitsum (W ms t i) n ||| bitsum (W ms t t) n = bitsum (W ms (t + 1) i) n := by
        apply Nat.eq_of_testBit_eq
        intro j
        rw [Nat.testBit_or, bitsum_bit, bitsum_bit, bitsum_bit, W, h]
        cases decide (j < n) <;> simp
      rw [if_pos rfl, if_pos hr, if_pos (by omega), e2]
    · rw [if_neg e]
      by_cases h1 : r < i
      · rw [if_pos h1, if_pos (by omega)]
      · rw [if_neg h1, if_neg (by omega)]
  · rw [List.getElem?_eq_none (by simp [wmix_length]; omega), List.getElem?_eq_none (by rw [wmix_length]; omega)]
theorem wmix_skip (n : Nat) (ms : List Nat) (t i : Nat) (h : W ms t i t = false) : wmix n ms t i = wmix n ms t (i + 1) := by
  unfold wmix
  apply List.map_congr_left
  intro r _
  by_cases h1 : r < i
  · rw [if_pos h1, if_pos (by omega)]
  · rw [if_neg h1]
    by_cases e : r = i
    · subst e
      have e2 : W ms (t + 1) r = W ms t r := by
        funext j
        simp [W, h]
      rw [if_pos (by omega), e2]
    · rw [if_neg (by omega)]
theorem closed_l0 (n : Nat) (hn : n ≤ 10) (ms : List Nat) (l : List Int) : ∀ (d k t : Nat), t + d = n → d * (n + 2) < k →
    impl_Order_closed.l0 k (n : Int) (t : Int) (n : Int) l (n : Int) (wmix n ms t 0) = some ((n : Int), wmix n ms n 0) := by
  intro d
  induction d with
  | zero =>
    intro k t ht hk
    obtain ⟨k, rfl⟩ : ∃ m, k = m + 1 := ⟨k - 1, by omega⟩
    simp only [impl_Order_closed.l0]
    have e : t = n := by omega
    rw [if_neg (by omega), e]
  | succ d ih =>
    intro k t ht hk
    rw [Nat.succ_mul] at hk
    obtain ⟨k, rfl⟩ : ∃ m, k = m + 1 := ⟨k - 1, by omega⟩
    simp only [impl_Order_closed.l0]
    rw [if_pos (by omega)]
    have h2 : 2 ^ n ≤ 2 ^ 10 := Nat.pow_le_pow_right (by omega) hn
    have inner : ∀ (e k i : Nat), i + e = n → d * (n + 2) + 1 + e < k → impl_Order_closed.l1 k (t : Int) (n : Int) (t : Int) (n : Int) (i : Int) (n : Int) l (n : Int) (wmix n ms t i) = some ((n : Int), wmix n ms n 0) := by
      intro e
      induction e with
      | zero =>
        intro k i hi hk
        obtain ⟨k, rfl⟩ : ∃ m, k = m + 1 := ⟨k - 1, by omega⟩
        simp only [impl_Order_closed.l1]
        have e2 : i = n := by omega
        subst e2
        rw [if_neg (by omega), wrap_ok (by omega) (by omega), show ((t : Int) + 1) = ((t + 1 : Nat) : Int) by omega, wmix_next]
        exact ih k (t + 1) (by omega) (by omega)
      | succ e ihe =>
        intro k i hi hk
        obtain ⟨k, rfl⟩ : ∃ m, k = m + 1 := ⟨k - 1, by omega⟩
        simp only [impl_Order_closed.l1]
        have next := ihe k (i + 1) (by omega) (by omega)
        have r1 : rd (wmix n ms t i) (i : Int) = ((bitsum (W ms t i) n : Nat) : Int) := by
          rw [wmix_rd n ms t i i (by omega), if_neg (by omega)]
        have b1 := bitsum_lt (W ms t i) n
        have b2 := bitsum_lt (W ms t t) n
        have e3 : (i : Int).toNat = i := by omega
        rw [if_pos (by omega), better_k (n : Int) _ i t _ (by rw [wmix_length]; omega) r1 (by omega) (by omega), bitsum_bit, decide_eq_true (show t < n by omega), Bool.true_and, wmix_length, wrap_ok (x := (i : Int) + 1) (by omega) (by omega), show ((i : Int) + 1) = ((i + 1 : Nat) : Int) by omega, r1, wmix_rd_own n ms t i (by omega), or_nat _ _ (by omega) (by omega), e3]
        simp only [Option.bind_some]
        cases hw : W ms t i t
        · rw [if_neg (by simp), wmix_skip n ms t i hw]
          exact next
        · rw [if_pos rfl, if_pos (by omega), if_pos (by omega), if_pos (by omega), if_pos (by omega), wmix_set n ms t i hw]
          exact next
    exact inner n k 0 (by omega) (by omega)
theorem closed_k (n : Nat) (hn : n ≤ 10) (ms : List Nat) (hl : ms.length = n) (hb : ∀ x ∈ ms, x < 2 ^ n) (k : Nat) (hk : 120 < k) :
    impl_Order_closed.f k (n : Int) (ms.map (fun (x : Nat) => (x : Int))) = some ((n : Int), wmix n ms n 0) := by
  unfold impl_Order_closed.f slices_Clone_int_int.f
  have lm : (ms.map (fun (x : Nat) => (x : Int))).length = n := by simp [hl]
  have hm : n * (n + 2) ≤ 10 * 12 := Nat.mul_le_mul hn (by omega)
  rw [if_pos (by omega)]
  simp only [Option.bind_some]
  have := closed_l0 n hn ms (ms.map (fun (x : Nat) => (x : Int))) n k 0 (by omega) (by omega)
  rw [← wmix_start n ms hl hb] at this
  exact this
/-- Is no element better than itself along a path? -/
def noCycle (n : Nat) (ms : List Nat) : Bool := (List.range' 0 n).all fun i => !W ms n i i
theorem acyclic_l0 (n : Nat) (hn : n ≤ 10) (ms : List Nat) : ∀ (d k i : Nat), i + d = n → d < k → impl_Order_acyclic.l0 k (n : Int) (i : Int) (n : Int) (wmix n ms n 0) = some ((List.range' i d).all fun i => !W ms n i i) := by
  intro d
  induction d with
  | zero =>
    intro k i hi hk
    obtain ⟨k, rfl⟩ : ∃ m, k = m + 1 := ⟨k - 1, by omega⟩
    simp only [impl_Order_acyclic.l0]
    rw [if_neg (by omega)]
    rfl
  | succ d ih =>
    intro k i hi hk
    obtain ⟨k, rfl⟩ : ∃ m, k = m + 1 := ⟨k - 1, by omega⟩
    simp only [impl_Order_acyclic.l0]
    have h2 : 2 ^ n ≤ 2 ^ 10 := Nat.pow_le_pow_right (by omega) hn
    have b1 := bitsum_lt (W ms n i) n
    have r1 : rd (wmix n ms n 0) (i : Int) = ((bitsum (W ms n i) n : Nat) : Int) := by
      rw [wmix_rd n ms n 0 i (by omega), if_neg (by omega)]
    rw [if_pos (by omega), better_k (n : Int) _ i i _ (by rw [wmix_length]; omega) r1 (by omega) (by omega), bitsum_bit, decide_eq_true (show i < n by omega), Bool.true_and, List.range'_succ, List.all_cons, wrap_ok (by omega) (by omega), show ((i : Int) + 1) = ((i + 1 : Nat) : Int) by omega, ih k (i + 1) (by omega) (by omega)]
    simp only [Option.bind_some]
    cases W ms n i i
    · rw [if_neg (by simp)]
      simp
    · rw [if_pos rfl]
      simp
theorem acyclic_k (n : Nat) (hn : n ≤ 10) (ms : List Nat) (hl : ms.length = n) (hb : ∀ x ∈ ms, x < 2 ^ n) (k : Nat) (hk : 120 < k) :
    impl_Order_acyclic.f k (n : Int) (ms.map (fun (x : Nat) => (x : Int))) = some (noCycle n ms) := by
  unfold impl_Order_acyclic.f
  rw [closed_k n hn ms hl hb k hk]
  simp only [Option.bind_some]
  exact acyclic_l0 n hn ms n k 0 (by omega) (by omega)
theorem noCycle_iff (n : Nat) (ms : List Nat) : noCycle n ms = true ↔ ∀ i, i < n → W ms n i i = false := by
  unfold noCycle
  rw [List.all_eq_true]
  constructor
  · intro h i hi
    simpa using h i (by rw [List.mem_range']; exact ⟨i, hi, by omega⟩)
  · intro h x hx
    rw [List.mem_range'] at hx
    obtain ⟨i, hi, e⟩ := hx
    have : x = i := by omega
    rw [this, h i hi]
    rfl
theorem filter_lt {p q : Nat → Bool} (l : List Nat) (h : ∀ x ∈ l, p x = true → q x = true) (a : Nat) (ha : a ∈ l) (h1 : q a = true) (h2 : p a = false) : (l.filter p).length < (l.filter q).length := by
  have le : ∀ l : List Nat, (∀ x ∈ l, p x = true → q x = true) → (l.filter p).length ≤ (l.filter q).length := by
    intro l
    induction l with
    | nil => intro _; simp
    | cons b l ih =>
      intro h
      have := ih (fun x hx => h x (by simp [hx]))
      cases hp : p b
      · cases hq : q b
        · simpa [hp, hq] using this
        · simp only [List.filter_cons, hp, hq, if_true, Bool.false_eq_true, if_false, List.length_cons]
          omega
      · have hq := h b (by simp) hp
        simpa [hp, hq] using this
  induction l with
  | nil => cases ha
  | cons b l ih =>
    have hle := le l (fun x hx => h x (by simp [hx]))
    by_cases e : a = b
    · subst e
      simp only [List.filter_cons, h1, h2, if_true, Bool.false_eq_true, if_false, List.length_cons]
      omega
    · have hm : a ∈ l := by
        rcases List.mem_cons.1 ha with h | h
        · exact absurd h e
        · exact h
      have := ih (fun x hx => h x (by simp [hx])) hm
      cases hp : p b
      · cases hq : q b
        · simpa [hp, hq] using this
        · simp only [List.filter_cons, hp, hq, if_true, Bool.false_eq_true, if_false, List.length_cons]
          omega
      · have hq := h b (by simp) hp
        simpa [hp, hq] using this
/-- No cycle: each set that is not empty has an element than which none of it is better. -/
theorem acyclic_iff (n : Nat) (ms : List Nat) (hl : ms.length = n) (hb : ∀ x ∈ ms, x < 2 ^ n) : (∀ i, i < n → W ms n i i = false) ↔ ∀ S, 1 ≤ S → S < 2 ^ n → ∃ i, S.testBit i = true ∧ ms.getD i 0 &&& S = 0 := by
  constructor
  · intro h S h1 h2
    have key : ∀ m i, ((List.range n).filter (W ms n i)).length ≤ m → S.testBit i = true → ∃ i, S.testBit i = true ∧ ms.getD i 0 &&& S = 0 := by
      intro m
      induction m with
      | zero =>
        intro i hm hi
        refine ⟨i, hi, ?_⟩
        apply Classical.byContradiction
        intro hne
        obtain ⟨j, hj⟩ := bit_of_ne hne
        rw [Nat.testBit_and, Bool.and_eq_true] at hj
        have hw : W ms n i j = true := W_rel (by simpa [W] using hj.1) n
        have hjn := (W_lt hl hb n i j hw).2
        have : j ∈ (List.range n).filter (W ms n i) := by rw [List.mem_filter]; exact ⟨by simpa using hjn, hw⟩
        rw [List.eq_nil_of_length_eq_zero (Nat.le_zero.1 hm)] at this
        cases this
      | succ m ih =>
        intro i hm hi
        by_cases h0 : ms.getD i 0 &&& S = 0
        · exact ⟨i, hi, h0⟩
        · obtain ⟨j, hj⟩ := bit_of_ne h0
          rw [Nat.testBit_and, Bool.and_eq_true] at hj
          have hw : W ms n i j = true := W_rel (by simpa [W] using hj.1) n
          have hjn := (W_lt hl hb n i j hw).2
          refine ih j ?_ hj.2
          have := filter_lt (p := W ms n j) (q := W ms n i) (List.range n) (fun x _ hx => W_trans hl hb hw hx) j (by simpa using hjn) hw (h j hjn)
          omega
    obtain ⟨i, hi⟩ := bit_of_ne (show S ≠ 0 by omega)
    exact key _ i (Nat.le_refl _) hi
  · intro h i hi
    cases hw : W ms n i i
    · rfl
    · exfalso
      have hS : ∀ j, (bitsum (fun j => W ms n i j && W ms n j i) n).testBit j = true ↔ j < n ∧ W ms n i j = true ∧ W ms n j i = true := by
        intro j
        rw [bitsum_bit]
        simp
      have hne : bitsum (fun j => W ms n i j && W ms n j i) n ≠ 0 := by
        intro e
        have := (hS i).2 ⟨hi, hw, hw⟩
        rw [e] at this
        simp at this
      obtain ⟨j, hj, h0⟩ := h _ (Nat.one_le_iff_ne_zero.2 hne) (bitsum_lt _ n)
      obtain ⟨hjn, h1, h2⟩ := (hS j).1 hj
      have bad : ∀ q, W ms 0 j q = true → (bitsum (fun j => W ms n i j && W ms n j i) n).testBit q = true → False := by
        intro q hq hs
        have hq' : (ms.getD j 0).testBit q = true := hq
        have : (ms.getD j 0 &&& bitsum (fun j => W ms n i j && W ms n j i) n).testBit q = true := by rw [Nat.testBit_and, hq', hs]; rfl
        rw [h0] at this
        simp at this
      rcases W_first hl hb h2 with g | ⟨q, g1, g2⟩
      · exact bad i g ((hS i).2 ⟨hi, hw, hw⟩)
      · exact bad q g1 ((hS q).2 ⟨(W_lt hl hb 0 j q g1).2, W_trans hl hb h1 (W_rel g1 n), g2⟩)

theorem elems_mem (x m i : Nat) : (∃ q, q < (elemsTo x m).length ∧ (elemsTo x m).getD q 0 = i) ↔ i < m ∧ x.testBit i = true := by
  have h : i ∈ elemsTo x m ↔ i < m ∧ x.testBit i = true := by
    unfold elemsTo
    rw [List.mem_filter, List.mem_range]
  rw [← h]
  constructor
  · rintro ⟨q, hq, rfl⟩
    rw [List.getD_eq_getElem?_getD, List.getElem?_eq_getElem hq]
    exact List.getElem_mem hq
  · intro hi
    obtain ⟨q, hq, e⟩ := List.getElem_of_mem hi
    refine ⟨q, hq, ?_⟩
    rw [List.getD_eq_getElem?_getD, List.getElem?_eq_getElem hq]
    exact e
theorem elems_lt2 (x m j : Nat) (hj : j < (elemsTo x m).length) : (elemsTo x m).getD j 0 < m := ((elems_mem x m _).1 ⟨j, hj, rfl⟩).1

/-- The elements of a list, before j, than which none of a set is better, as a set. -/
def chTo (ms : List Nat) (S : Nat) (L : List Nat) : Nat → Nat
  | 0 => 0
  | j + 1 => if ms.getD (L.getD j 0) 0 &&& S = 0 then chTo ms S L j ||| 2 ^ L.getD j 0 else chTo ms S L j
theorem chTo_lt (n : Nat) (ms : List Nat) (S : Nat) (L : List Nat) (hL : ∀ j, j < L.length → L.getD j 0 < n) : ∀ j, j ≤ L.length → chTo ms S L j < 2 ^ n := by
  intro j
  induction j with
  | zero => intro _; exact Nat.two_pow_pos _
  | succ j ih =>
    intro hj
    rw [chTo]
    split
    · exact Nat.or_lt_two_pow (ih (by omega)) (Nat.pow_lt_pow_right (by omega) (hL j (by omega)))
    · exact ih (by omega)
theorem chTo_bit (ms : List Nat) (S : Nat) (L : List Nat) (j i : Nat) : (chTo ms S L j).testBit i = true ↔ ∃ q, q < j ∧ L.getD q 0 = i ∧ ms.getD i 0 &&& S = 0 := by
  induction j with
  | zero => simp [chTo]
  | succ j ih =>
    rw [chTo]
    by_cases h : ms.getD (L.getD j 0) 0 &&& S = 0
    · rw [if_pos h, Nat.testBit_or, Bool.or_eq_true, ih, Nat.testBit_two_pow, decide_eq_true_eq]
      constructor
      · rintro (⟨q, h1, h2⟩ | e)
        · exact ⟨q, by omega, h2⟩
        · exact ⟨j, by omega, e, e ▸ h⟩
      · rintro ⟨q, h1, h2, h3⟩
        by_cases e : q = j
        · subst e
          exact Or.inr h2
        · exact Or.inl ⟨q, by omega, h2, h3⟩
    · rw [if_neg h, ih]
      constructor
      · rintro ⟨q, h1, h2⟩
        exact ⟨q, by omega, h2⟩
      · rintro ⟨q, h1, h2, h3⟩
        by_cases e : q = j
        · subst e
          rw [← h2] at h3
          exact absurd h3 h
        · exact ⟨q, by omega, h2, h3⟩
/-- What is chosen of a set. -/
def chosen (n : Nat) (ms : List Nat) (S : Nat) : Nat := bitsum (fun i => S.testBit i && decide (ms.getD i 0 &&& S = 0)) n
theorem chTo_all (n : Nat) (ms : List Nat) (S : Nat) : chTo ms S (elemsTo S n) (elemsTo S n).length = chosen n ms S := by
  apply Nat.eq_of_testBit_eq
  intro i
  rw [Bool.eq_iff_iff, chTo_bit]
  unfold chosen
  rw [bitsum_bit, Bool.and_eq_true, Bool.and_eq_true, decide_eq_true_eq, decide_eq_true_eq]
  constructor
  · rintro ⟨q, h1, h2, h3⟩
    obtain ⟨g1, g2⟩ := (elems_mem S n i).1 ⟨q, h1, h2⟩
    exact ⟨g1, g2, h3⟩
  · rintro ⟨g1, g2, h3⟩
    obtain ⟨q, h1, h2⟩ := (elems_mem S n i).2 ⟨g1, g2⟩
    exact ⟨q, h1, h2, h3⟩
theorem cfChoice_l0 (n : Nat) (hn : n ≤ 10) (ms : List Nat) (hl : ms.length = n) (hb : ∀ x ∈ ms, x < 2 ^ n) (S : Nat) (hS : S < 2 ^ n) (L : List Nat) (hL : ∀ j, j < L.length → L.getD j 0 < n) (hLl : L.length ≤ 10) (N : Int) : ∀ (d k j : Nat), j + d = L.length → d < k →
    spec_cfChoice.l0 k (S : Int) ((chTo ms S L j : Nat) : Int) (L.map (fun (x : Nat) => (x : Int))) (L.length : Int) (j : Int) N (ms.map (fun (x : Nat) => (x : Int))) = some ((chTo ms S L L.length : Nat) : Int) := by
  intro d
  induction d with
  | zero =>
    intro k j hj hk
    obtain ⟨k, rfl⟩ : ∃ m, k = m + 1 := ⟨k - 1, by omega⟩
    simp only [spec_cfChoice.l0]
    have e : j = L.length := by omega
    rw [if_neg (by omega), e]
  | succ d ih =>
    intro k j hj hk
    obtain ⟨k, rfl⟩ : ∃ m, k = m + 1 := ⟨k - 1, by omega⟩
    simp only [spec_cfChoice.l0]
    have lL : ((L.map (fun (x : Nat) => (x : Int))).length : Int) = (L.length : Int) := by simp
    have lm : ((ms.map (fun (x : Nat) => (x : Int))).length : Int) = (n : Int) := by simp [hl]
    have hLj := hL j (by omega)
    have h2 : 2 ^ n ≤ 2 ^ 10 := Nat.pow_le_pow_right (by omega) hn
    have a1 := getD_lt (Nat.two_pow_pos n) hb (L.getD j 0)
    have a2 := chTo_lt n ms S L hL j (by omega)
    have next := ih k (j + 1) (by omega) (by omega)
    rw [chTo] at next
    rw [if_pos (by omega), if_pos (by omega), if_pos (by omega), rd_map, if_pos (Int.natCast_nonneg _), lm, if_pos (Int.ofNat_lt.2 hLj), rd_map, and_nat _ _ (by omega) (by omega), or_shl _ _ (by omega) (by omega), wrap_ok (by omega) (by omega), show ((j : Int) + 1) = ((j + 1 : Nat) : Int) by omega]
    by_cases h : ms.getD (L.getD j 0) 0 &&& S = 0
    · rw [if_pos (by rw [h]; rfl)]
      rw [if_pos h] at next
      exact next
    · rw [if_neg (by intro e; exact h (Int.ofNat_eq_zero.1 e))]
      rw [if_neg h] at next
      exact next
theorem cfChoice_k (n : Nat) (hn : n ≤ 10) (ms : List Nat) (hl : ms.length = n) (hb : ∀ x ∈ ms, x < 2 ^ n) (S : Nat) (hS : S < 2 ^ n) (k : Nat) (hk : 20 < k) :
    spec_cfChoice.f k (n : Int) (ms.map (fun (x : Nat) => (x : Int))) (S : Int) = some ((chosen n ms S : Nat) : Int) := by
  unfold spec_cfChoice.f
  have hle := elemsTo_length S n
  rw [orList_k S n hS (by omega) k (by omega)]
  simp only [Option.bind_some]
  have := cfChoice_l0 n hn ms hl hb S hS (elemsTo S n) (fun j hj => elems_lt2 S n j hj) (by omega) (n : Int) (elemsTo S n).length k 0 (by omega) (by omega)
  rw [chTo_all] at this
  have lL : (((elemsTo S n).map (fun (x : Nat) => (x : Int))).length : Int) = ((elemsTo S n).length : Int) := by simp
  rw [lL]
  exact this
theorem chosen_zero (n : Nat) (ms : List Nat) (S : Nat) (hS : S < 2 ^ n) : chosen n ms S ≠ 0 ↔ ∃ i, S.testBit i = true ∧ ms.getD i 0 &&& S = 0 := by
  unfold chosen
  constructor
  · intro h
    obtain ⟨i, hi⟩ := bit_of_ne h
    rw [bitsum_bit] at hi
    simp at hi
    exact ⟨i, hi.2.1, by simpa using hi.2.2⟩
  · rintro ⟨i, h1, h2⟩ e
    have hi : i < n := Nat.lt_of_not_le fun hle => by
      rw [Nat.testBit_lt_two_pow (Nat.lt_of_lt_of_le hS (Nat.pow_le_pow_right (by omega) hle))] at h1
      cases h1
    have : (bitsum (fun i => S.testBit i && decide (ms.getD i 0 &&& S = 0)) n).testBit i = true := by
      rw [bitsum_bit, h1, h2]
      simp [hi]
    rw [e] at this
    simp at this

theorem cfAcyclic_l0 (n : Nat) (hn : n ≤ 10) (ms : List Nat) (hl : ms.length = n) (hb : ∀ x ∈ ms, x < 2 ^ n) : ∀ (d k S : Nat), S + d = 2 ^ n → d + 30 < k →
    spec_cfAcyclic.l0 k (S : Int) (n : Int) (ms.map (fun (x : Nat) => (x : Int))) = some ((List.range' S d).all fun S => decide (chosen n ms S ≠ 0)) := by
  intro d
  have h2 : 2 ^ n ≤ 2 ^ 10 := Nat.pow_le_pow_right (by omega) hn
  induction d with
  | zero =>
    intro k S hS hk
    obtain ⟨k, rfl⟩ : ∃ m, k = m + 1 := ⟨k - 1, by omega⟩
    simp only [spec_cfAcyclic.l0]
    rw [if_pos (by omega), shl_one n (by omega), if_neg (by omega)]
    rfl
  | succ d ih =>
    intro k S hS hk
    obtain ⟨k, rfl⟩ : ∃ m, k = m + 1 := ⟨k - 1, by omega⟩
    simp only [spec_cfAcyclic.l0]
    rw [if_pos (by omega), shl_one n (by omega), if_pos (by omega), cfChoice_k n hn ms hl hb S (by omega) k (by omega), wrap_ok (by omega) (by omega), show ((S : Int) + 1) = ((S + 1 : Nat) : Int) by omega, ih k (S + 1) (by omega) (by omega), List.range'_succ, List.all_cons]
    simp only [Option.bind_some]
    by_cases h : chosen n ms S = 0
    · rw [if_pos (by omega)]
      simp [h]
    · rw [if_neg (by omega)]
      simp [h]
theorem cfAcyclic_k (n : Nat) (hn : n ≤ 10) (ms : List Nat) (hl : ms.length = n) (hb : ∀ x ∈ ms, x < 2 ^ n) (k : Nat) (hk : 1100 < k) :
    spec_cfAcyclic.f k (n : Int) (ms.map (fun (x : Nat) => (x : Int))) = some (noCycle n ms) := by
  unfold spec_cfAcyclic.f
  have h2 : 2 ^ n ≤ 2 ^ 10 := Nat.pow_le_pow_right (by omega) hn
  have h0 := Nat.two_pow_pos n
  rw [show (1 : Int) = ((1 : Nat) : Int) from rfl, cfAcyclic_l0 n hn ms hl hb (2 ^ n - 1) k 1 (by omega) (by omega)]
  congr 1
  rw [Bool.eq_iff_iff, noCycle_iff, acyclic_iff n ms hl hb, List.all_eq_true]
  constructor
  · intro h S h1 h3
    have := h S (by rw [List.mem_range']; exact ⟨S - 1, by omega, by omega⟩)
    exact (chosen_zero n ms S h3).1 (by simpa using this)
  · intro h S hS
    rw [List.mem_range'] at hS
    obtain ⟨q, hq, e⟩ := hS
    have := (chosen_zero n ms S (by omega)).2 (h S (by omega) (by omega))
    simpa using this

theorem members_all : ∀ x, x < 1024 → impl_members.f 12 ((x : Nat) : Int) = some ((elemsTo x 10).map (fun (y : Nat) => (y : Int))) := by decide +kernel
theorem members_k (x m : Nat) (hx : x < 2 ^ m) (hm : m ≤ 10) (k : Nat) (hk : 12 ≤ k) : impl_members.f k (x : Int) = some ((elemsTo x m).map (fun (y : Nat) => (y : Int))) := by
  have h0 := members_all x (Nat.lt_of_lt_of_le hx (Nat.pow_le_pow_right (n := 2) (by omega) hm))
  have e := elemsTo_more x m (10 - m) hx
  rw [show m + (10 - m) = 10 by omega] at e
  rw [e] at h0
  obtain ⟨d, rfl⟩ : ∃ d, k = 12 + d := ⟨k - 12, by omega⟩
  clear hk
  induction d with
  | zero => exact h0
  | succ d ih => exact impl_members.mono _ _ _ ih

theorem choice_l0 (n : Nat) (hn : n ≤ 10) (ms : List Nat) (hl : ms.length = n) (hb : ∀ x ∈ ms, x < 2 ^ n) (S : Nat) (hS : S < 2 ^ n) (L : List Nat) (hL : ∀ j, j < L.length → L.getD j 0 < n) (hLl : L.length ≤ 10) (N : Int) : ∀ (d k j : Nat), j + d = L.length → d < k →
    impl_Order_choice.l0 k (S : Int) ((chTo ms S L j : Nat) : Int) (L.map (fun (x : Nat) => (x : Int))) (L.length : Int) (j : Int) N (ms.map (fun (x : Nat) => (x : Int))) = some ((chTo ms S L L.length : Nat) : Int) := by
  intro d
  induction d with
  | zero =>
    intro k j hj hk
    obtain ⟨k, rfl⟩ : ∃ m, k = m + 1 := ⟨k - 1, by omega⟩
    simp only [impl_Order_choice.l0]
    have e : j = L.length := by omega
    rw [if_neg (by omega), e]
  | succ d ih =>
    intro k j hj hk
    obtain ⟨k, rfl⟩ : ∃ m, k = m + 1 := ⟨k - 1, by omega⟩
    simp only [impl_Order_choice.l0]
    have lL : ((L.map (fun (x : Nat) => (x : Int))).length : Int) = (L.length : Int) := by simp
    have lm : ((ms.map (fun (x : Nat) => (x : Int))).length : Int) = (n : Int) := by simp [hl]
    have hLj := hL j (by omega)
    have h2 : 2 ^ n ≤ 2 ^ 10 := Nat.pow_le_pow_right (by omega) hn
    have a1 := getD_lt (Nat.two_pow_pos n) hb (L.getD j 0)
    have a2 := chTo_lt n ms S L hL j (by omega)
    have next := ih k (j + 1) (by omega) (by omega)
    rw [chTo] at next
    rw [if_pos (by omega), if_pos (by omega), if_pos (by omega), rd_map, if_pos (Int.natCast_nonneg _), lm, if_pos (Int.ofNat_lt.2 hLj), rd_map, and_nat _ _ (by omega) (by omega), or_shl _ _ (by omega) (by omega), wrap_ok (by omega) (by omega), show ((j : Int) + 1) = ((j + 1 : Nat) : Int) by omega]
    by_cases h : ms.getD (L.getD j 0) 0 &&& S = 0
    · rw [if_pos (by rw [h]; rfl)]
      rw [if_pos h] at next
      exact next
    · rw [if_neg (by intro e; exact h (Int.ofNat_eq_zero.1 e))]
      rw [if_neg h] at next
      exact next
theorem choice_k (n : Nat) (hn : n ≤ 10) (ms : List Nat) (hl : ms.length = n) (hb : ∀ x ∈ ms, x < 2 ^ n) (S : Nat) (hS : S < 2 ^ n) (k : Nat) (hk : 20 < k) :
    impl_Order_choice.f k (n : Int) (ms.map (fun (x : Nat) => (x : Int))) (S : Int) = some ((chosen n ms S : Nat) : Int) := by
  unfold impl_Order_choice.f
  have hle := elemsTo_length S n
  rw [members_k S n hS (by omega) k (by omega)]
  simp only [Option.bind_some]
  have := choice_l0 n hn ms hl hb S hS (elemsTo S n) (fun j hj => elems_lt2 S n j hj) (by omega) (n : Int) (elemsTo S n).length k 0 (by omega) (by omega)
  rw [chTo_all] at this
  have lL : (((elemsTo S n).map (fun (x : Nat) => (x : Int))).length : Int) = ((elemsTo S n).length : Int) := by simp
  rw [lL]
  exact this

/-- Is a row that of an order: the element isn't better than itself, and what is better than its betters is among them. -/
def ordRow (n : Nat) (ms : List Nat) (i : Nat) : Bool := !(ms.getD i 0).testBit i && (List.range' 0 (elemsTo (ms.getD i 0) n).length).all fun q => decide (andn (ms.getD ((elemsTo (ms.getD i 0) n).getD q 0) 0) (ms.getD i 0) = 0)
theorem impl_IsOrder_l0 (n : Nat) (hn : n ≤ 10) (ms : List Nat) (hl : ms.length = n) (hb : ∀ x ∈ ms, x < 2 ^ n) : ∀ (d k i : Nat), i + d = n → d * 14 + 20 < k →
    impl_IsOrder.l0 k (ms.map (fun (x : Nat) => (x : Int))) (n : Int) (i : Int) (n : Int) (ms.map (fun (x : Nat) => (x : Int))) = some ((List.range' i d).all (ordRow n ms)) := by
  intro d
  have h2 : 2 ^ n ≤ 2 ^ 10 := Nat.pow_le_pow_right (by omega) hn
  have lm : ((ms.map (fun (x : Nat) => (x : Int))).length : Int) = (n : Int) := by simp [hl]
  have lm2 : (ms.map (fun (x : Nat) => (x : Int))).length = n := by simp [hl]
  induction d with
  | zero =>
    intro k i hi hk
    obtain ⟨k, rfl⟩ : ∃ m, k = m + 1 := ⟨k - 1, by omega⟩
    simp only [impl_IsOrder.l0]
    rw [if_neg (by omega)]
    rfl
  | succ d ih =>
    intro k i hi hk
    obtain ⟨k, rfl⟩ : ∃ m, k = m + 1 := ⟨k - 1, by omega⟩
    simp only [impl_IsOrder.l0]
    have a1 := getD_lt (Nat.two_pow_pos n) hb i
    have r1 := rd_map ms i
    have hle := elemsTo_length (ms.getD i 0) n
    rw [if_pos (by omega), if_pos (by omega), if_pos (by omega), better_k (n : Int) _ i i _ (by omega) r1 (by omega) (by omega), r1, members_k _ n a1 hn k (by omega)]
    simp only [Option.bind_some]
    rw [List.range'_succ, List.all_cons]
    cases h1 : (ms.getD i 0).testBit i
    · rw [if_neg (by simp)]
      have inner : ∀ (e k q : Nat), q + e = (elemsTo (ms.getD i 0) n).length → d * 14 + 21 + e < k →
          impl_IsOrder.l1 k ((ms.getD i 0 : Nat) : Int) (ms.map (fun (x : Nat) => (x : Int))) (n : Int) (i : Int) ((elemsTo (ms.getD i 0) n).map (fun (x : Nat) => (x : Int))) ((elemsTo (ms.getD i 0) n).length : Int) (q : Int) (n : Int) (ms.map (fun (x : Nat) => (x : Int))) = some (((List.range' q e).all fun q => decide (andn (ms.getD ((elemsTo (ms.getD i 0) n).getD q 0) 0) (ms.getD i 0) = 0)) && (List.range' (i + 1) d).all (ordRow n ms)) := by
        intro e
        induction e with
        | zero =>
          intro k q hq hk
          obtain ⟨k, rfl⟩ : ∃ m, k = m + 1 := ⟨k - 1, by omega⟩
          simp only [impl_IsOrder.l1]
          rw [if_neg (by omega), wrap_ok (by omega) (by omega), show ((i : Int) + 1) = ((i + 1 : Nat) : Int) by omega, ih k (i + 1) (by omega) (by omega)]
          simp
        | succ e ihe =>
          intro k q hq hk
          obtain ⟨k, rfl⟩ : ∃ m, k = m + 1 := ⟨k - 1, by omega⟩
          simp only [impl_IsOrder.l1]
          have lL : (((elemsTo (ms.getD i 0) n).map (fun (x : Nat) => (x : Int))).length : Int) = ((elemsTo (ms.getD i 0) n).length : Int) := by simp
          have hj := elems_lt2 (ms.getD i 0) n q (by omega)
          have a2 := getD_lt (Nat.two_pow_pos n) hb ((elemsTo (ms.getD i 0) n).getD q 0)
          rw [if_pos (by omega), if_pos (by omega), if_pos (by omega), rd_map, if_pos (Int.natCast_nonneg _), lm, if_pos (Int.ofNat_lt.2 hj), rd_map, andNot_nat _ _ (by omega) (by omega), wrap_ok (by omega) (by omega), show ((q : Int) + 1) = ((q + 1 : Nat) : Int) by omega, ihe k (q + 1) (by omega) (by omega), List.range'_succ, List.all_cons]
          by_cases h : andn (ms.getD ((elemsTo (ms.getD i 0) n).getD q 0) 0) (ms.getD i 0) = 0
          · rw [if_pos (by rw [h]; rfl), decide_eq_true h, Bool.true_and]
          · rw [if_neg (by intro e; exact h (Int.ofNat_eq_zero.1 e)), decide_eq_false h, Bool.false_and, Bool.false_and]
      have := inner (elemsTo (ms.getD i 0) n).length k 0 (by omega) (by omega)
      have lL : (((elemsTo (ms.getD i 0) n).map (fun (x : Nat) => (x : Int))).length : Int) = ((elemsTo (ms.getD i 0) n).length : Int) := by simp
      rw [lL]
      have er : ordRow n ms i = (List.range' 0 (elemsTo (ms.getD i 0) n).length).all fun q => decide (andn (ms.getD ((elemsTo (ms.getD i 0) n).getD q 0) 0) (ms.getD i 0) = 0) := by
        unfold ordRow
        rw [h1]
        rfl
      rw [er]
      exact this
    · rw [if_pos rfl]
      have er : ordRow n ms i = false := by
        unfold ordRow
        rw [h1]
        rfl
      rw [er]
      rfl

theorem and255 (x : Int) : 0 ≤ Go.bits .and .u64 x 255 ∧ Go.bits .and .u64 x 255 < 256 := by
  unfold Go.bits
  show 0 ≤ IntKind.u64.wrap (((BitVec.ofInt 64 x &&& BitVec.ofInt 64 255).toNat : Nat) : Int) ∧ IntKind.u64.wrap (((BitVec.ofInt 64 x &&& BitVec.ofInt 64 255).toNat : Nat) : Int) < 256
  have h : (BitVec.ofInt 64 x &&& BitVec.ofInt 64 255).toNat ≤ 255 := by
    rw [BitVec.toNat_and]
    exact Nat.and_le_right
  rw [IntKind.wrap_u64]
  omega
theorem rd_byte (s : List Int) (hb : ∀ x ∈ s, 0 ≤ x ∧ x < 256) (p : Int) (h0 : 0 ≤ p) (h1 : p < s.length) : 0 ≤ rd s p ∧ rd s p < 256 := by
  obtain ⟨n, rfl⟩ := Int.eq_ofNat_of_zero_le h0
  have hn : n < s.length := by omega
  have e : rd s ((n : Nat) : Int) = s[n] := by
    rw [rd_nat, List.getD_eq_getElem?_getD, List.getElem?_eq_getElem hn]
    rfl
  show 0 ≤ rd s ((n : Nat) : Int) ∧ rd s ((n : Nat) : Int) < 256
  rw [e]
  exact hb _ (List.getElem_mem hn)
theorem next_ok (s : List Int) (hs : s.length ≤ 1048576) (hb : ∀ x ∈ s, 0 ≤ x ∧ x < 256) (p h : Int) (h0 : 0 ≤ p) (h1 : p ≤ 1000000000) : ∃ v h', spec_l1Cur_next.f s p h = some (v, p + 1, h') ∧ 0 ≤ v ∧ v < 256 := by
  have w : wrap64 (p + 1) = p + 1 := wrap_ok (by omega) (by omega)
  unfold spec_l1Cur_next.f
  rw [w]
  by_cases hp : p < (s.length : Int)
  · have hv := rd_byte s hb p h0 hp
    rw [if_pos hp, if_pos h0, if_pos (by omega), wrap_ok (x := rd s p) (by omega) (by omega)]
    exact ⟨_, _, rfl, hv.1, hv.2⟩
  · rw [if_neg hp, if_neg (by omega)]
    refine ⟨_, _, rfl, ?_⟩
    have := and255 ((IntKind.u64.wrap ((IntKind.u64.wrap ((IntKind.u64.wrap (h * 6364136223846793005)) + 0)) + 1442695040888963407)) / 1099511627776)
    rw [wrap_ok (by omega) (by omega)]
    exact this
theorem pick_ok (s : List Int) (hs : s.length ≤ 1048576) (hb : ∀ x ∈ s, 0 ≤ x ∧ x < 256) (p h a : Int) (h0 : 0 ≤ p) (h1 : p ≤ 900000000) : ∃ v p' h', spec_l1Cur_pick.f s p h a = some (v, p', h') ∧ 0 ≤ v ∧ (1 < a → v < a) ∧ (a ≤ 1 → v = 0) ∧ p ≤ p' ∧ p' ≤ p + 2 := by
  unfold spec_l1Cur_pick.f
  by_cases ha : a ≤ 1
  · rw [if_pos ha]
    exact ⟨0, p, h, rfl, by omega, by omega, fun _ => rfl, by omega, by omega⟩
  · rw [if_neg ha]
    obtain ⟨v, h', e, hv0, hv1⟩ := next_ok s hs hb p h h0 (by omega)
    rw [e]
    simp only [Option.bind_some]
    by_cases h2 : a > 200
    · rw [if_pos h2]
      obtain ⟨v2, h3, e2, hw0, hw1⟩ := next_ok s hs hb (p + 1) h' (by omega) (by omega)
      rw [e2]
      simp only [Option.bind_some]
      rw [if_neg (by omega), wrap_ok (x := v * 256) (by omega) (by omega), wrap_ok (by omega) (by omega)]
      exact ⟨_, _, _, rfl, Int.tmod_nonneg _ (by omega), fun _ => Int.tmod_lt_of_pos _ (by omega), fun h => absurd h ha, by omega, by omega⟩
    · rw [if_neg h2, if_neg (by omega)]
      exact ⟨_, _, _, rfl, Int.tmod_nonneg _ (by omega), fun _ => Int.tmod_lt_of_pos _ (by omega), fun h => absurd h ha, by omega, by omega⟩
theorem one_ok (s : List Int) (hs : s.length ≤ 1048576) (hb : ∀ x ∈ s, 0 ≤ x ∧ x < 256) (p h a : Int) (h0 : 0 ≤ p) (h1 : p ≤ 900000000) : ∃ v p' h', spec_l1Cur_one.f s p h a = some (v, p', h') ∧ p ≤ p' ∧ p' ≤ p + 2 := by
  unfold spec_l1Cur_one.f
  obtain ⟨v, p', h', e, _, _, _, e3, e4⟩ := pick_ok s hs hb p h a h0 h1
  rw [e]
  exact ⟨_, _, _, rfl, e3, e4⟩
theorem among_ok (s : List Int) (hs : s.length ≤ 1048576) (hb : ∀ x ∈ s, 0 ≤ x ∧ x < 256) (p h : Int) (l : List Int) (hl : 1 ≤ l.length) (h0 : 0 ≤ p) (h1 : p ≤ 900000000) : ∃ v p' h', spec_l1Cur_among.f s p h l = some (v, p', h') ∧ p ≤ p' ∧ p' ≤ p + 2 := by
  unfold spec_l1Cur_among.f
  obtain ⟨v, p', h', e, e0, e1, e2, e3, e4⟩ := pick_ok s hs hb p h (l.length : Int) h0 h1
  rw [e]
  simp only [Option.bind_some]
  rw [if_pos e0, if_pos (by by_cases h : 1 < (l.length : Int); exact e1 h; have := e2 (by omega); omega)]
  exact ⟨_, _, _, rfl, e3, e4⟩

theorem relation_ok (s : List Int) (hs : s.length ≤ 1048576) (hb : ∀ x ∈ s, 0 ≤ x ∧ x < 256) (p h a : Int) (h0 : 0 ≤ p) (h1 : p ≤ 800000000) (ha0 : 0 ≤ a) (ha : a ≤ 10) (k : Nat) (hk : 400 < k) : ∃ n l p' h', spec_l1Cur_relation.f k s p h a = some (n, l, p', h') ∧ l.length ≤ 10 ∧ p ≤ p' ∧ p' ≤ p + 400 := by
  unfold spec_l1Cur_relation.f
  obtain ⟨v, p1, g1, e, e0, e1, e2, e3, e4⟩ := pick_ok s hs hb p h (wrap64 (a + 1)) h0 (by omega)
  rw [wrap_ok (by omega) (by omega)] at e e1 e2
  rw [wrap_ok (by omega) (by omega), e]
  simp only [Option.bind_some]
  have hv : v ≤ 10 := by
    by_cases hc : 1 < a + 1
    · have := e1 hc; omega
    · have := e2 (by omega); omega
  obtain ⟨n, rfl⟩ := Int.eq_ofNat_of_zero_le e0
  have hn : n ≤ 10 := by omega
  have main : ∀ (d k : Nat) (l : List Int) (q g : Int), l.length + d = n → d * 14 + 2 < k → p1 ≤ q → q + d * 22 ≤ p1 + 240 → ∃ n' l' p' h', spec_l1Cur_relation.l0 k s q g (n : Int) l = some (n', l', p', h') ∧ l'.length ≤ 10 ∧ q ≤ p' ∧ p' ≤ p1 + 240 := by
    intro d
    induction d with
    | zero =>
      intro k l q g hd hk hq1 hq2
      obtain ⟨k, rfl⟩ : ∃ m, k = m + 1 := ⟨k - 1, by omega⟩
      rw [spec_l1Cur_relation.l0, if_neg (by omega)]
      exact ⟨_, _, _, _, rfl, by omega, by omega, by omega⟩
    | succ d ih =>
      intro k l q g hd hk hq1 hq2
      obtain ⟨k, rfl⟩ : ∃ m, k = m + 1 := ⟨k - 1, by omega⟩
      rw [spec_l1Cur_relation.l0, if_pos (by omega)]
      have inner : ∀ (e k i : Nat) (x q g : Int), i + e = n → d * 14 + 3 + e < k → p1 ≤ q → q + e * 2 + d * 22 ≤ p1 + 240 → ∃ n' l' p' h', spec_l1Cur_relation.l1 k x (i : Int) s q g (n : Int) l = some (n', l', p', h') ∧ l'.length ≤ 10 ∧ q ≤ p' ∧ p' ≤ p1 + 240 := by
        intro e
        induction e with
        | zero =>
          intro k i x q g hi hk hq1 hq2
          obtain ⟨k, rfl⟩ : ∃ m, k = m + 1 := ⟨k - 1, by omega⟩
          rw [spec_l1Cur_relation.l1, if_neg (by omega), if_pos (by omega)]
          exact ih k (l ++ [x]) q g (by simp; omega) (by omega) hq1 (by omega)
        | succ e ihe =>
          intro k i x q g hi hk hq1 hq2
          obtain ⟨k, rfl⟩ : ∃ m, k = m + 1 := ⟨k - 1, by omega⟩
          obtain ⟨b, q', g', e0, f1, f2⟩ := one_ok s hs hb q g 4 (by omega) (by omega)
          rw [spec_l1Cur_relation.l1, if_pos (by omega), e0]
          simp only [Option.bind_some]
          rw [wrap_ok (by omega) (by omega), show ((i : Int) + 1) = ((i + 1 : Nat) : Int) by omega, if_pos (Int.natCast_nonneg i)]
          split
          · obtain ⟨n', l', p', h', z, z1, z2, z3⟩ := ihe k (i + 1) (Go.bits .or .i64 x (shl .i64 1 (i : Int))) q' g' (by omega) (by omega) (by omega) (by omega)
            exact ⟨n', l', p', h', z, z1, by omega, z3⟩
          · obtain ⟨n', l', p', h', z, z1, z2, z3⟩ := ihe k (i + 1) x q' g' (by omega) (by omega) (by omega) (by omega)
            exact ⟨n', l', p', h', z, z1, by omega, z3⟩
      exact inner n k 0 0 q g (by omega) (by omega) hq1 (by omega)
  obtain ⟨n', l', p', h', z, z1, z2, z3⟩ := main n k [] p1 g1 (by simp) (by omega) (by omega) (by omega)
  exact ⟨n', l', p', h', z, z1, by omega, by omega⟩
theorem orHas_some (x i : Int) (h : 0 ≤ i) : ∃ b, spec_orHas.f x i = some b := by
  unfold spec_orHas.f
  rw [if_pos h]
  exact ⟨_, rfl⟩
theorem l1Own_some (l : List Int) (h : l.length ≤ 1048576) : spec_l1Own.f l = some l := by
  unfold spec_l1Own.f
  simp only [Option.bind_some, List.nil_append, List.length_nil]
  rw [if_pos (by omega)]
theorem close_ok (n : Int) (l : List Int) (hn : 0 ≤ n) (hl : l.length ≤ 10) (k : Nat) (hk : 200 < k) : ∃ n' l' b, spec_CloseRelation.f k n l = some (n', l', b) ∧ l'.length ≤ 10 ∧ 0 ≤ n' := by
  unfold spec_CloseRelation.f
  rw [orRelation_k n l (by omega) k (by omega)]
  simp only [Option.bind_some]
  cases isRel n l
  · exact ⟨0, [], false, rfl, by simp, by omega⟩
  · simp only [if_true]
    rw [l1Own_some l (by omega)]
    simp only [Option.bind_some]
    have main : ∀ (d k t : Nat) (x : List Int), x.length = l.length → t + d = l.length → d * 13 + 1 < k → ∃ n' l' b, spec_CloseRelation.l0 k (l.length : Int) (t : Int) n x = some (n', l', b) ∧ l'.length ≤ 10 ∧ 0 ≤ n' := by
      intro d
      induction d with
      | zero =>
        intro k t x hx ht hk
        obtain ⟨k, rfl⟩ : ∃ m, k = m + 1 := ⟨k - 1, by omega⟩
        rw [spec_CloseRelation.l0, if_neg (by omega)]
        exact ⟨_, _, _, rfl, by omega, hn⟩
      | succ d ih =>
        intro k t x hx ht hk
        obtain ⟨k, rfl⟩ : ∃ m, k = m + 1 := ⟨k - 1, by omega⟩
        rw [spec_CloseRelation.l0, if_pos (by omega), hx]
        have inner : ∀ (e k i : Nat) (x : List Int), x.length = l.length → i + e = l.length → d * 13 + 2 + e < k → ∃ n' l' b, spec_CloseRelation.l1 k (t : Int) (l.length : Int) (t : Int) (l.length : Int) (i : Int) n x = some (n', l', b) ∧ l'.length ≤ 10 ∧ 0 ≤ n' := by
          intro e
          induction e with
          | zero =>
            intro k i x hx hi hk
            obtain ⟨k, rfl⟩ : ∃ m, k = m + 1 := ⟨k - 1, by omega⟩
            rw [spec_CloseRelation.l1, if_neg (by omega), wrap_ok (by omega) (by omega), show ((t : Int) + 1) = ((t + 1 : Nat) : Int) by omega]
            exact ih k (t + 1) x hx (by omega) (by omega)
          | succ e ihe =>
            intro k i x hx hi hk
            obtain ⟨k, rfl⟩ : ∃ m, k = m + 1 := ⟨k - 1, by omega⟩
            obtain ⟨b, eb⟩ := orHas_some (rd x (i : Int)) (t : Int) (by omega)
            rw [spec_CloseRelation.l1, if_pos (by omega), if_pos (by omega), if_pos (by omega), eb]
            simp only [Option.bind_some]
            rw [wrap_ok (by omega) (by omega), show ((i : Int) + 1) = ((i + 1 : Nat) : Int) by omega, if_pos (Int.natCast_nonneg t), if_pos (show (t : Int) < (x.length : Int) by omega)]
            split
            · exact ihe k (i + 1) _ (by rw [List.length_set]; exact hx) (by omega) (by omega)
            · exact ihe k (i + 1) x hx (by omega) (by omega)
        exact inner l.length k 0 x hx (by omega) (by omega)
    exact main l.length k 0 l rfl (by omega) (by omega)
theorem order_ok (s : List Int) (hs : s.length ≤ 1048576) (hb : ∀ x ∈ s, 0 ≤ x ∧ x < 256) (p h a : Int) (h0 : 0 ≤ p) (h1 : p ≤ 800000000) (ha0 : 0 ≤ a) (ha : a ≤ 10) (k : Nat) (hk : 600 < k) : ∃ n l p' h', spec_l1Cur_order.f k s p h a = some (n, l, p', h') ∧ l.length ≤ 10 ∧ 0 ≤ n ∧ p ≤ p' ∧ p' ≤ p + 400 := by
  unfold spec_l1Cur_order.f
  obtain ⟨v, p1, g1, e, e0, e1, e2, e3, e4⟩ := pick_ok s hs hb p h (wrap64 (a + 1)) h0 (by omega)
  rw [wrap_ok (by omega) (by omega)] at e e1 e2
  rw [wrap_ok (by omega) (by omega), e]
  simp only [Option.bind_some]
  have hv : v ≤ 10 := by
    by_cases hc : 1 < a + 1
    · have := e1 hc; omega
    · have := e2 (by omega); omega
  obtain ⟨n, rfl⟩ := Int.eq_ofNat_of_zero_le e0
  have hn : n ≤ 10 := by omega
  obtain ⟨x7, p2, g2, f, f0, f1, f2, f3, f4⟩ := pick_ok s hs hb p1 g1 3 (by omega) (by omega)
  rw [if_pos (by omega), if_pos (by omega), f]
  simp only [Option.bind_some]
  -- the second loop
  have two : ∀ (A B : List Int), A.length = n → B.length = n → ∀ (d k i : Nat) (R : List Int) (q g : Int), R.length = n → i + d = n → 250 + d * 14 < k → p1 ≤ q → q + d * 22 ≤ p1 + 320 → ∃ n' l' p' h', spec_l1Cur_order.l1 k (n : Int) x7 A B (i : Int) s q g (n : Int) R = some (n', l', p', h') ∧ l'.length ≤ 10 ∧ 0 ≤ n' ∧ q ≤ p' ∧ p' ≤ p1 + 320 := by
    intro A B hA hB d
    induction d with
    | zero =>
      intro k i R q g hR hi hk hq1 hq2
      obtain ⟨k, rfl⟩ : ∃ m, k = m + 1 := ⟨k - 1, by omega⟩
      rw [spec_l1Cur_order.l1, if_neg (by omega)]
      split
      · exact ⟨_, _, _, _, rfl, by omega, by omega, by omega, by omega⟩
      · obtain ⟨n', l', b, z, z1, z2⟩ := close_ok (n : Int) R (by omega) (by omega) k (by omega)
        rw [z]
        exact ⟨_, _, _, _, rfl, z1, z2, by omega, by omega⟩
    | succ d ih =>
      intro k i R q g hR hi hk hq1 hq2
      obtain ⟨k, rfl⟩ : ∃ m, k = m + 1 := ⟨k - 1, by omega⟩
      rw [spec_l1Cur_order.l1, if_pos (by omega)]
      have inner : ∀ (e k j : Nat) (R : List Int) (q g : Int), R.length = n → j + e = n → 250 + d * 14 + 1 + e < k → p1 ≤ q → q + e * 2 + d * 22 ≤ p1 + 320 → ∃ n' l' p' h', spec_l1Cur_order.l2 k (n : Int) x7 A B (i : Int) (j : Int) s q g (n : Int) R = some (n', l', p', h') ∧ l'.length ≤ 10 ∧ 0 ≤ n' ∧ q ≤ p' ∧ p' ≤ p1 + 320 := by
        intro e
        induction e with
        | zero =>
          intro k j R q g hR hj hk hq1 hq2
          obtain ⟨k, rfl⟩ : ∃ m, k = m + 1 := ⟨k - 1, by omega⟩
          rw [spec_l1Cur_order.l2, if_neg (by omega), wrap_ok (by omega) (by omega), show ((i : Int) + 1) = ((i + 1 : Nat) : Int) by omega]
          exact ih k (i + 1) R q g hR (by omega) (by omega) hq1 (by omega)
        | succ e ihe =>
          intro k j R q g hR hj hk hq1 hq2
          obtain ⟨k, rfl⟩ : ∃ m, k = m + 1 := ⟨k - 1, by omega⟩
          have next : ∀ (R' : List Int) (q' g' : Int), R'.length = n → q ≤ q' → q' ≤ q + 2 → ∃ n' l' p' h', spec_l1Cur_order.l2 k (n : Int) x7 A B (i : Int) ((j + 1 : Nat) : Int) s q' g' (n : Int) R' = some (n', l', p', h') ∧ l'.length ≤ 10 ∧ 0 ≤ n' ∧ q ≤ p' ∧ p' ≤ p1 + 320 := by
            intro R' q' g' hR' h3 h4
            obtain ⟨n', l', p', h', z, z1, z2, z3, z4⟩ := ihe k (j + 1) R' q' g' hR' (by omega) (by omega) (by omega) (by omega)
            exact ⟨n', l', p', h', z, z1, z2, by omega, z4⟩
          obtain ⟨b, q', g', o0, o1, o2⟩ := one_ok s hs hb q g 3 (by omega) (by omega)
          rw [spec_l1Cur_order.l2, if_pos (by omega), wrap_ok (by omega) (by omega), show ((j : Int) + 1) = ((j + 1 : Nat) : Int) by omega, o0]
          simp only [Option.bind_some]
          have c1 : (0 : Int) ≤ (i : Int) := Int.natCast_nonneg i
          have c2 : (0 : Int) ≤ (j : Int) := Int.natCast_nonneg j
          have c3 : (i : Int) < (B.length : Int) := by omega
          have c4 : (j : Int) < (A.length : Int) := by omega
          have c5 : (i : Int) < (R.length : Int) := by omega
          simp only [if_pos c1, if_pos c2, if_pos c3, if_pos c4, if_pos c5]
          repeat' split
          all_goals first
            | exact next _ q g hR (by omega) (by omega)
            | exact next _ q' g' hR (by omega) (by omega)
            | exact next _ q g (by rw [List.length_set]; exact hR) (by omega) (by omega)
            | exact next _ q' g' (by rw [List.length_set]; exact hR) (by omega) (by omega)
      exact inner n k 0 R q g hR (by omega) (by omega) hq1 (by omega)
  have one : ∀ (d k i : Nat) (A B : List Int) (q g : Int), A.length = i → B.length = i → i + d = n → 400 + d < k → p1 ≤ q → q + d * 4 ≤ p1 + 60 → ∃ n' l' p' h', spec_l1Cur_order.l0 k (n : Int) x7 A B (i : Int) s q g (n : Int) (List.replicate n 0) = some (n', l', p', h') ∧ l'.length ≤ 10 ∧ 0 ≤ n' ∧ q ≤ p' ∧ p' ≤ p1 + 320 := by
    intro d
    induction d with
    | zero =>
      intro k i A B q g hA hB hi hk hq1 hq2
      obtain ⟨k, rfl⟩ : ∃ m, k = m + 1 := ⟨k - 1, by omega⟩
      rw [spec_l1Cur_order.l0, if_neg (by omega)]
      exact two A B (by omega) (by omega) n k 0 (List.replicate n 0) q g (by simp) (by omega) (by omega) hq1 (by omega)
    | succ d ih =>
      intro k i A B q g hA hB hi hk hq1 hq2
      obtain ⟨k, rfl⟩ : ∃ m, k = m + 1 := ⟨k - 1, by omega⟩
      obtain ⟨v8, q8, g8, o, o0, o1, o2, o3, o4⟩ := pick_ok s hs hb q g 8 (by omega) (by omega)
      obtain ⟨v4, q4, g4, r, r0, r1, r2, r3, r4⟩ := pick_ok s hs hb q8 g8 4 (by omega) (by omega)
      rw [spec_l1Cur_order.l0, if_pos (by omega), o]
      simp only [Option.bind_some]
      rw [if_pos (by omega), r]
      simp only [Option.bind_some]
      have cB : B.length < 17592186044416 := by omega
      simp only [if_pos cB]
      rw [wrap_ok (x := (i : Int) + 1) (by omega) (by omega), show ((i : Int) + 1) = ((i + 1 : Nat) : Int) by omega]
      split
      · obtain ⟨n', l', p', h', z, z1, z2, z3, z4⟩ := ih k (i + 1) (A ++ [v8]) (B ++ [wrap64 (v8 + v4)]) q4 g4 (by simp; omega) (by simp; omega) (by omega) (by omega) (by omega) (by omega)
        exact ⟨n', l', p', h', z, z1, z2, by omega, z4⟩
      · obtain ⟨n', l', p', h', z, z1, z2, z3, z4⟩ := ih k (i + 1) (A ++ [v8]) (B ++ [wrap64 (v8 + 2)]) q8 g8 (by simp; omega) (by simp; omega) (by omega) (by omega) (by omega) (by omega)
        exact ⟨n', l', p', h', z, z1, z2, by omega, z4⟩
  obtain ⟨n', l', p', h', z, z1, z2, z3, z4⟩ := one n k 0 [] [] p2 g2 rfl rfl (by omega) (by omega) (by omega) (by omega)
  have en : ((n : Nat) : Int).toNat = n := by omega
  rw [show ((n : Int)).toNat = n from en]
  exact ⟨n', l', p', h', z, z1, z2, by omega, by omega⟩

theorem anyOrder_ok (s : List Int) (hs : s.length ≤ 1048576) (hb : ∀ x ∈ s, 0 ≤ x ∧ x < 256) (p h a : Int) (h0 : 0 ≤ p) (h1 : p ≤ 700000000) (ha0 : 0 ≤ a) (ha : a ≤ 10) (k : Nat) (hk : 600 < k) : ∃ n l p' h', spec_l1Cur_anyOrder.f k s p h a = some (n, l, p', h') ∧ l.length ≤ 10 ∧ p ≤ p' ∧ p' ≤ p + 1000 := by
  unfold spec_l1Cur_anyOrder.f
  obtain ⟨n, l, p1, g1, e, e1, e2, e3, e4⟩ := order_ok s hs hb p h a h0 (by omega) ha0 ha k hk
  rw [e]
  simp only [Option.bind_some]
  obtain ⟨v, p2, g2, f, f0, f1, f2, f3, f4⟩ := pick_ok s hs hb p1 g1 14 (by omega) (by omega)
  rw [f]
  simp only [Option.bind_some]
  split
  · obtain ⟨n', l', p', h', z, z1, z2, z3⟩ := relation_ok s hs hb p2 g2 a (by omega) (by omega) ha0 ha k (by omega)
    rw [z]
    simp only [Option.bind_some]
    exact ⟨_, _, _, _, rfl, z1, by omega, by omega⟩
  · split
    · obtain ⟨v', p', h', z, z1, z2⟩ := among_ok s hs hb p2 g2 [(-1), 0, 10, 11] (by simp) (by omega) (by omega)
      rw [z]
      simp only [Option.bind_some]
      exact ⟨_, _, _, _, rfl, e1, by omega, by omega⟩
    · split
      · split
        · rename_i hpos
          obtain ⟨w, p3, g3, u, u0, u1, u2, u3, u4⟩ := pick_ok s hs hb p2 g2 (l.length : Int) (by omega) (by omega)
          obtain ⟨v', p', h', z, z1, z2⟩ := among_ok s hs hb p3 g3 [(-1), 0, 1, shl .i64 1 n] (by simp) (by omega) (by omega)
          rw [u]
          simp only [Option.bind_some]
          first | rw [if_pos e2, z] | rw [z]
          simp only [Option.bind_some]
          rw [if_pos u0, if_pos (by by_cases hc : 1 < (l.length : Int); exact u1 hc; have := u2 (by omega); omega)]
          exact ⟨_, _, _, _, rfl, by rw [List.length_set]; exact e1, by omega, by omega⟩
        · exact ⟨_, _, _, _, rfl, e1, by omega, by omega⟩
      · split
        · obtain ⟨n', l', p', h', z, z1, z2, z3, z4⟩ := order_ok s hs hb p2 g2 10 (by omega) (by omega) (by omega) (by omega) k hk
          rw [z]
          simp only [Option.bind_some]
          exact ⟨_, _, _, _, rfl, z1, by omega, by omega⟩
        · exact ⟨_, _, _, _, rfl, e1, by omega, by omega⟩

/-- What an order is, said of its rows. -/
theorem order_rows (m : Nat) (ms : List Nat) (h2 : ms.length = m) (h3 : ∀ x ∈ ms, x < 2 ^ m) (ho : (List.range' 0 m).all (ordRow m ms) = true) : (∀ i, (ms.getD i 0).testBit i = false) ∧ ∀ i j, (ms.getD i 0).testBit j = true → ∀ q, (ms.getD j 0).testBit q = true → (ms.getD i 0).testBit q = true := by
  have out : ∀ i, m ≤ i → ms.getD i 0 = 0 := fun i hi => by
    rw [List.getD_eq_getElem?_getD, List.getElem?_eq_none (by omega)]
    rfl
  have row : ∀ i, i < m → ordRow m ms i = true := fun i hi => List.all_eq_true.1 ho i (by rw [List.mem_range']; exact ⟨i, hi, by omega⟩)
  constructor
  · intro i
    by_cases hi : i < m
    · have := row i hi
      unfold ordRow at this
      rw [Bool.and_eq_true] at this
      simpa using this.1
    · rw [out i (by omega)]
      simp
  · intro i j hj q hq
    by_cases hi : i < m
    · have := row i hi
      unfold ordRow at this
      rw [Bool.and_eq_true, List.all_eq_true] at this
      have hjm : j < m := by
        by_cases h : j < m
        · exact h
        · rw [out j (by omega)] at hq
          simp at hq
      obtain ⟨t, ht1, ht2⟩ := (elems_mem (ms.getD i 0) m j).2 ⟨hjm, hj⟩
      have h4 := this.2 t (by rw [List.mem_range']; exact ⟨t, ht1, by omega⟩)
      rw [decide_eq_true_eq, ht2, andn_zero] at h4
      exact h4 q hq
    · rw [out i (by omega)] at hj
      simp at hj
theorem order_noCycle (m : Nat) (ms : List Nat) (h2 : ms.length = m) (h3 : ∀ x ∈ ms, x < 2 ^ m) (ho : (List.range' 0 m).all (ordRow m ms) = true) : noCycle m ms = true := by
  obtain ⟨o1, o2⟩ := order_rows m ms h2 h3 ho
  rw [noCycle_iff]
  intro i _
  cases h : W ms m i i
  · rfl
  · have := W_min ms (fun i j => (ms.getD i 0).testBit j = true) (fun i k j h1 h2 => o2 i k h1 j h2) (fun i j h => h) m i i h
    rw [o1 i] at this
    cases this
theorem chosen_bit (m : Nat) (ms : List Nat) (S i : Nat) (hS : S < 2 ^ m) : (chosen m ms S).testBit i = true ↔ S.testBit i = true ∧ ms.getD i 0 &&& S = 0 := by
  unfold chosen
  rw [bitsum_bit, Bool.and_eq_true, Bool.and_eq_true, decide_eq_true_eq, decide_eq_true_eq]
  constructor
  · exact fun h => h.2
  · intro h
    refine ⟨?_, h⟩
    by_cases hi : i < m
    · exact hi
    · have := Nat.testBit_lt_two_pow (Nat.lt_of_lt_of_le hS (Nat.pow_le_pow_right (by omega) (Nat.le_of_not_lt hi)))
      rw [this] at h
      cases h.1
theorem chosen_lt (m : Nat) (ms : List Nat) (S : Nat) : chosen m ms S < 2 ^ m := bitsum_lt _ _
theorem and_zero_iff (a b : Nat) : a &&& b = 0 ↔ ∀ j, a.testBit j = true → b.testBit j = false := by
  constructor
  · intro h j hj
    have := congrArg (fun x => x.testBit j) h
    simp only [Nat.testBit_and, hj, Bool.true_and, Nat.zero_testBit] at this
    exact this
  · intro h
    apply Nat.eq_of_testBit_eq
    intro j
    rw [Nat.testBit_and, Nat.zero_testBit]
    cases ha : a.testBit j
    · rfl
    · rw [h j ha]
      rfl
/-- A better element of a set can be taken among those that are chosen. -/
theorem better_chosen (m : Nat) (ms : List Nat) (h2 : ms.length = m) (h3 : ∀ x ∈ ms, x < 2 ^ m) (ho : (List.range' 0 m).all (ordRow m ms) = true) (A : Nat) (hA : A < 2 ^ m) (i j : Nat) (hj : (ms.getD i 0).testBit j = true) (hjA : A.testBit j = true) : ∃ t, (ms.getD i 0).testBit t = true ∧ (chosen m ms A).testBit t = true := by
  obtain ⟨o1, o2⟩ := order_rows m ms h2 h3 ho
  have hc := (acyclic_iff m ms h2 h3).1 ((noCycle_iff m ms).1 (order_noCycle m ms h2 h3 ho)) (ms.getD i 0 &&& A)
  have hne : 1 ≤ ms.getD i 0 &&& A := by
    rcases Nat.eq_zero_or_pos (ms.getD i 0 &&& A) with h | h
    · have := (and_zero_iff _ _).1 h j hj
      rw [hjA] at this
      cases this
    · exact h
  obtain ⟨t, ht1, ht2⟩ := hc hne (Nat.lt_of_le_of_lt Nat.and_le_right hA)
  rw [Nat.testBit_and, Bool.and_eq_true] at ht1
  refine ⟨t, ht1.1, (chosen_bit m ms A t hA).2 ⟨ht1.2, ?_⟩⟩
  rw [and_zero_iff]
  intro q hq
  have h5 := (and_zero_iff _ _).1 ht2 q hq
  rw [Nat.testBit_and, o2 i t ht1.1 q hq, Bool.true_and] at h5
  exact h5
theorem path_free (m : Nat) (ms : List Nat) (h2 : ms.length = m) (h3 : ∀ x ∈ ms, x < 2 ^ m) (ho : (List.range' 0 m).all (ordRow m ms) = true) (A B : Nat) (hA : A < 2 ^ m) (hB : B < 2 ^ m) : chosen m ms (A ||| B) = chosen m ms (chosen m ms A ||| chosen m ms B) := by
  have hAB := Nat.or_lt_two_pow hA hB
  have hCC := Nat.or_lt_two_pow (chosen_lt m ms A) (chosen_lt m ms B)
  apply Nat.eq_of_testBit_eq
  intro i
  rw [Bool.eq_iff_iff, chosen_bit m ms _ i hAB, chosen_bit m ms _ i hCC]
  simp only [Nat.testBit_or, Bool.or_eq_true, and_zero_iff, chosen_bit m ms A _ hA, chosen_bit m ms B _ hB, Bool.or_eq_false_iff]
  constructor
  · rintro ⟨h, hn⟩
    refine ⟨?_, fun j hj => ?_⟩
    · rcases h with h | h
      · exact .inl ⟨h, fun j hj => (hn j hj).1⟩
      · exact .inr ⟨h, fun j hj => (hn j hj).2⟩
    · obtain ⟨n1, n2⟩ := hn j hj
      constructor
      · cases hc : (chosen m ms A).testBit j
        · rfl
        · have := ((chosen_bit m ms A j hA).1 hc).1
          rw [n1] at this
          cases this
      · cases hc : (chosen m ms B).testBit j
        · rfl
        · have := ((chosen_bit m ms B j hB).1 hc).1
          rw [n2] at this
          cases this
  · rintro ⟨h, hn⟩
    refine ⟨?_, fun j hj => ?_⟩
    · rcases h with h | h
      · exact .inl h.1
      · exact .inr h.1
    · constructor
      · cases hc : A.testBit j
        · rfl
        · obtain ⟨t, t1, t2⟩ := better_chosen m ms h2 h3 ho A hA i j hj hc
          have := (hn t t1).1
          rw [t2] at this
          cases this
      · cases hc : B.testBit j
        · rfl
        · obtain ⟨t, t1, t2⟩ := better_chosen m ms h2 h3 ho B hB i j hj hc
          have := (hn t t1).2
          rw [t2] at this
          cases this
theorem isOrder_rel (m : Nat) (ms : List Nat) (h1 : m ≤ 10) (h2 : ms.length = m) (h3 : ∀ x ∈ ms, x < 2 ^ m) (hT : isRel (m : Int) (ms.map (fun (x : Nat) => (x : Int))) = true) (k : Nat) (hk : 400 < k) : impl_IsOrder.f k (m : Int) (ms.map (fun (x : Nat) => (x : Int))) = some ((List.range' 0 m).all (ordRow m ms)) := by
  have lm : ((ms.map (fun (x : Nat) => (x : Int))).length : Int) = (m : Int) := by simp [h2]
  unfold impl_IsOrder.f
  rw [IsRelation_k _ _ (by omega) k (by omega), hT, lm]
  exact impl_IsOrder_l0 m h1 ms h2 h3 m k 0 (by omega) (by omega)
theorem isOrder_no (n : Int) (l : List Int) (hl : l.length ≤ 10) (hT : isRel n l = false) (k : Nat) (hk : 400 < k) : impl_IsOrder.f k n l = some false := by
  unfold impl_IsOrder.f
  rw [IsRelation_k n l (by omega) k (by omega), hT]
  rfl
theorem byte_wf (s : List Int) (h : ∀ x ∈ s, (Lit.int .u8 x).wf = true) : ∀ x ∈ s, 0 ≤ x ∧ x < 256 := by
  intro x hx
  have e : IntKind.u8.min ≤ x ∧ x ≤ IntKind.u8.max := by simpa [Lit.wf] using h x hx
  have m : IntKind.u8.min = 0 := by decide
  have m2 : IntKind.u8.max = 255 := by decide
  omega

theorem least_some (a b : Int) : ∃ c, spec_l1Least.f a b = some c ∧ c ≤ b := by
  unfold spec_l1Least.f
  split
  · exact ⟨a, rfl, by omega⟩
  · exact ⟨b, rfl, by omega⟩
theorem most_some (a : Int) (h : a ≤ 10) : ∃ c, spec_l1Most.f 0 a = some c ∧ 0 ≤ c ∧ c ≤ 10 := by
  unfold spec_l1Most.f
  split
  · exact ⟨0, rfl, by omega, by omega⟩
  · exact ⟨a, rfl, by omega, by omega⟩
theorem drawChoice_ok (s : List Int) (hs : s.length ≤ 1048576) (hb : ∀ x ∈ s, 0 ≤ x ∧ x < 256) (k : Nat) (hk : 700 < k) : ∃ n l S, l.length ≤ 10 ∧ spec_DrawChoiceOf.f k s = some (n, l, S) := by
  have last : ∀ (k : Nat) (p h n : Int) (l : List Int), 0 < k → 0 ≤ p → p ≤ 100000 → l.length ≤ 10 → ∃ n' l' S, l'.length ≤ 10 ∧ spec_DrawChoiceOf.j0 k s p h n l = some (n', l', S) := by
    intro k p h n l hk h0 h1 hl
    obtain ⟨k, rfl⟩ : ∃ m, k = m + 1 := ⟨k - 1, by omega⟩
    obtain ⟨c, e, hc⟩ := least_some n 10
    obtain ⟨d, f, hd0, hd⟩ := most_some c hc
    obtain ⟨v, p1, g1, o, o0, o1, o2, o3, o4⟩ := pick_ok s hs hb p h (shl .i64 1 d) h0 (by omega)
    obtain ⟨b, p2, g2, r, r1, r2⟩ := one_ok s hs hb p1 g1 15 (by omega) (by omega)
    obtain ⟨v', p', h', z, z1, z2⟩ := among_ok s hs hb p2 g2 [(-1), shl .i64 1 d, 4611686018427387904] (by simp) (by omega) (by omega)
    rw [spec_DrawChoiceOf.j0, e]
    simp only [Option.bind_some]
    rw [f]
    simp only [Option.bind_some]
    rw [if_pos hd0, o]
    simp only [Option.bind_some]
    rw [r]
    simp only [Option.bind_some]
    rw [z]
    simp only [Option.bind_some]
    split
    · exact ⟨_, _, _, hl, rfl⟩
    · exact ⟨_, _, _, hl, rfl⟩
  unfold spec_DrawChoiceOf.f
  obtain ⟨n, l, p1, g1, e, e1, e2, e3⟩ := anyOrder_ok s hs hb 0 0 7 (by omega) (by omega) (by omega) (by omega) k (by omega)
  rw [e]
  simp only [Option.bind_some]
  obtain ⟨b, p2, g2, r, r1, r2⟩ := one_ok s hs hb p1 g1 3 (by omega) (by omega)
  rw [r]
  simp only [Option.bind_some]
  split
  · obtain ⟨n', l', p', h', z, z1, z2, z3⟩ := relation_ok s hs hb p2 g2 6 (by omega) (by omega) (by omega) (by omega) k (by omega)
    rw [z]
    exact last k p' h' n' l' (by omega) (by omega) (by omega) z1
  · exact last k p2 g2 n l (by omega) (by omega) (by omega) e1
theorem vNumber_ok (s : List Int) (hs : s.length ≤ 1048576) (hb : ∀ x ∈ s, 0 ≤ x ∧ x < 256) (k : Nat) (hk : s.length < k) : ∃ v, laws_vNumber.f k s = some v ∧ 0 ≤ v := by
  unfold laws_vNumber.f
  have main : ∀ (d k i : Nat) (x : Int), 0 ≤ x → x < 1000003 → i + d = s.length → d < k → ∃ v, laws_vNumber.l0 k x s (s.length : Int) (i : Int) = some v ∧ 0 ≤ v := by
    intro d
    induction d with
    | zero =>
      intro k i x h0 h1 hi hk
      obtain ⟨k, rfl⟩ : ∃ m, k = m + 1 := ⟨k - 1, by omega⟩
      rw [laws_vNumber.l0, if_neg (by omega)]
      exact ⟨x, rfl, h0⟩
    | succ d ih =>
      intro k i x h0 h1 hi hk
      obtain ⟨k, rfl⟩ : ∃ m, k = m + 1 := ⟨k - 1, by omega⟩
      have hv := rd_byte s hb (i : Int) (by omega) (by omega)
      rw [laws_vNumber.l0, if_pos (by omega), if_pos (by omega), if_pos (by omega), wrap_ok (x := 31 * x) (by omega) (by omega), wrap_ok (x := rd s (i : Int)) (by omega) (by omega), wrap_ok (x := 31 * x + rd s (i : Int)) (by omega) (by omega), wrap_ok (by omega) (by omega), show ((i : Int) + 1) = ((i + 1 : Nat) : Int) by omega]
      exact ih k (i + 1) _ (Int.tmod_nonneg _ (by omega)) (Int.tmod_lt_of_pos _ (by omega)) (by omega) (by omega)
  exact main s.length k 0 0 (by omega) (by omega) (by omega) hk
theorem choice_no (n : Int) (l : List Int) (s : Int) (hl : l.length ≤ 10) (hT : isRel n l = false) (k : Nat) (hk : 300 < k) : impl_ChoiceOf.f k n l s = some (0, false) ∧ spec_ChoiceOf.f k n l s = some (0, false) := by
  unfold impl_ChoiceOf.f spec_ChoiceOf.f
  rw [IsRelation_k n l (by omega) k (by omega), orRelation_k n l (by omega) k (by omega), hT]
  exact ⟨rfl, rfl⟩
theorem choice_out (m : Nat) (ms : List Nat) (h1 : m ≤ 10) (h2 : ms.length = m) (hT : isRel (m : Int) (ms.map (fun (x : Nat) => (x : Int))) = true) (s : Int) (hs : ¬ (0 ≤ s ∧ s ≤ ((2 ^ m - 1 : Nat) : Int))) (k : Nat) (hk : 300 < k) : impl_ChoiceOf.f k (m : Int) (ms.map (fun (x : Nat) => (x : Int))) s = some (0, false) ∧ spec_ChoiceOf.f k (m : Int) (ms.map (fun (x : Nat) => (x : Int))) s = some (0, false) := by
  have ho : wrap64 (shl .i64 1 (m : Int) - 1) = ((2 ^ m - 1 : Nat) : Int) := ones_eq m (by omega)
  have lm : (ms.map (fun (x : Nat) => (x : Int))).length = m := by simp [h2]
  constructor
  · unfold impl_ChoiceOf.f
    rw [IsRelation_k _ _ (by omega) k (by omega), hT]
    simp only [Option.bind_some, if_true, impl_Order_all.f, within_eq]
    rw [if_pos (by omega), ho]
    simp only [Option.bind_some]
    rw [if_neg (by simpa using hs)]
  · unfold spec_ChoiceOf.f
    rw [orRelation_k _ _ (by omega) k (by omega), hT]
    simp only [Option.bind_some, if_true, l1In_eq]
    rw [if_pos (by omega), ho, if_neg (by simpa using hs)]
theorem choice_in (m : Nat) (ms : List Nat) (h1 : m ≤ 10) (h2 : ms.length = m) (h3 : ∀ x ∈ ms, x < 2 ^ m) (hT : isRel (m : Int) (ms.map (fun (x : Nat) => (x : Int))) = true) (S : Nat) (hS : S < 2 ^ m) (k : Nat) (hk : 300 < k) : impl_ChoiceOf.f k (m : Int) (ms.map (fun (x : Nat) => (x : Int))) (S : Int) = some (((chosen m ms S : Nat) : Int), true) ∧ spec_ChoiceOf.f k (m : Int) (ms.map (fun (x : Nat) => (x : Int))) (S : Int) = some (((chosen m ms S : Nat) : Int), true) := by
  have ho : wrap64 (shl .i64 1 (m : Int) - 1) = ((2 ^ m - 1 : Nat) : Int) := ones_eq m (by omega)
  have lm : (ms.map (fun (x : Nat) => (x : Int))).length = m := by simp [h2]
  have hp := Nat.two_pow_pos m
  have hs : 0 ≤ (S : Int) ∧ (S : Int) ≤ ((2 ^ m - 1 : Nat) : Int) := ⟨by omega, by omega⟩
  constructor
  · unfold impl_ChoiceOf.f
    rw [IsRelation_k _ _ (by omega) k (by omega), hT]
    simp only [Option.bind_some, if_true, impl_Order_all.f, within_eq]
    rw [if_pos (by omega), ho]
    simp only [Option.bind_some]
    rw [if_pos (by simpa using hs), choice_k m h1 ms h2 h3 S (by omega) k (by omega)]
    rfl
  · unfold spec_ChoiceOf.f
    rw [orRelation_k _ _ (by omega) k (by omega), hT]
    simp only [Option.bind_some, if_true, l1In_eq]
    rw [if_pos (by omega), ho, if_pos (by simpa using hs), cfChoice_k m h1 ms h2 h3 S (by omega) k (by omega)]
    rfl
theorem acyclic_no (n : Int) (l : List Int) (hl : l.length ≤ 10) (hT : isRel n l = false) (k : Nat) (hk : 400 < k) : impl_IsAcyclic.f k n l = some (false, false) ∧ spec_IsAcyclic.f k n l = some (false, false) := by
  unfold impl_IsAcyclic.f spec_IsAcyclic.f
  rw [IsRelation_k n l (by omega) k (by omega), orRelation_k n l (by omega) k (by omega), hT]
  exact ⟨rfl, rfl⟩
theorem acyclic_rel (m : Nat) (ms : List Nat) (h1 : m ≤ 10) (h2 : ms.length = m) (h3 : ∀ x ∈ ms, x < 2 ^ m) (hT : isRel (m : Int) (ms.map (fun (x : Nat) => (x : Int))) = true) (k : Nat) (hk : 1200 < k) : impl_IsAcyclic.f k (m : Int) (ms.map (fun (x : Nat) => (x : Int))) = some (noCycle m ms, true) ∧ spec_IsAcyclic.f k (m : Int) (ms.map (fun (x : Nat) => (x : Int))) = some (noCycle m ms, true) := by
  have lm : (ms.map (fun (x : Nat) => (x : Int))).length = m := by simp [h2]
  unfold impl_IsAcyclic.f spec_IsAcyclic.f
  rw [IsRelation_k _ _ (by omega) k (by omega), orRelation_k _ _ (by omega) k (by omega), hT]
  simp only [Option.bind_some, if_true]
  rw [acyclic_k m h1 ms h2 h3 k (by omega), cfAcyclic_k m h1 ms h2 h3 k (by omega)]
  exact ⟨rfl, rfl⟩
theorem FnChoicesOfOrders : laws_FnChoicesOfOrders.Pure := by
  intro l0 l1 _ _ hb0 _ _ hb1
  have b0 := byte_wf l0 hb0
  have b1 := byte_wf l1 hb1
  by_cases hbig : (l0.length : Int) > 1048576
  · refine ⟨1, ?_⟩
    unfold laws_FnChoicesOfOrders.f laws_big.f
    rw [if_pos hbig]
    rfl
  by_cases hbig2 : (l1.length : Int) > (wrap64 (1048576 - (l0.length : Int)))
  · refine ⟨1, ?_⟩
    unfold laws_FnChoicesOfOrders.f laws_big.f
    rw [if_neg hbig, decide_eq_true hbig2]
    rfl
  have hl1 : l1.length ≤ 1048576 := by
    rw [wrap_ok (by omega) (by omega)] at hbig2
    omega
  refine ⟨l1.length + 3000, ?_⟩
  obtain ⟨n, l, S, hl, hD⟩ := drawChoice_ok l0 (by omega) b0 (l1.length + 3000) (by omega)
  unfold laws_FnChoicesOfOrders.f laws_big.f
  rw [if_neg hbig, decide_eq_false hbig2]
  simp only [Option.bind_some, Bool.false_eq_true, if_false]
  rw [hD]
  simp only [Option.bind_some]
  cases hT : isRel n l
  · rw [(choice_no n l S hl hT _ (by omega)).1, (choice_no n l S hl hT _ (by omega)).2]
    simp only [Option.bind_some, bne_self_eq_false, Bool.false_eq_true, if_false]
    rw [laws_FnChoicesOfOrders.j0]
    simp only [Bool.false_eq_true, if_false]
    rw [(acyclic_no n l hl hT _ (by omega)).1, (acyclic_no n l hl hT _ (by omega)).2]
    simp only [Option.bind_some, bne_self_eq_false, Bool.false_eq_true, if_false]
    rw [IsRelation_k n l (by omega) _ (by omega), hT]
    simp only [Option.bind_some, bne_self_eq_false, Bool.false_eq_true, if_false]
    rw [isOrder_no n l hl hT _ (by omega)]
    simp only [Option.bind_some, Bool.false_eq_true, if_false]
    rw [laws_FnChoicesOfOrders.j1]
    simp
  · obtain ⟨m, ms, rfl, rfl, h1, h2, h3⟩ := (isRel_iff n l).1 hT
    have tail : ∀ (C : Int) (ok : Bool), (∀ k, l1.length + 2000 < k → ∀ y, (y = noCycle m ms) → laws_FnChoicesOfOrders.j1 k l1 S C ok y false (m : Int) (ms.map (fun (x : Nat) => (x : Int))) = some true) → laws_FnChoicesOfOrders.j0 (l1.length + 3000) l1 S C ok false (m : Int) (ms.map (fun (x : Nat) => (x : Int))) = some true := by
      intro C ok hj
      rw [laws_FnChoicesOfOrders.j0]
      simp only [Bool.false_eq_true, if_false]
      rw [(acyclic_rel m ms h1 h2 h3 hT _ (by omega)).1, (acyclic_rel m ms h1 h2 h3 hT _ (by omega)).2]
      simp only [Option.bind_some, bne_self_eq_false, Bool.false_eq_true, if_false]
      rw [IsRelation_k _ _ (by omega) _ (by omega), hT]
      simp only [Option.bind_some, bne_self_eq_false, Bool.false_eq_true, if_false]
      rw [isOrder_rel m ms h1 h2 h3 hT _ (by omega)]
      simp only [Option.bind_some]
      cases ho : (List.range' 0 m).all (ordRow m ms)
      · simp only [Bool.false_eq_true, if_false]
        exact hj _ (by omega) _ rfl
      · simp only [if_true]
        rw [order_noCycle m ms h2 h3 ho]
        exact hj _ (by omega) _ (order_noCycle m ms h2 h3 ho).symm
    have hp := Nat.two_pow_pos m
    have hp10 : 2 ^ m ≤ 2 ^ 10 := Nat.pow_le_pow_right (by omega) h1
    by_cases hs : 0 ≤ S ∧ S ≤ ((2 ^ m - 1 : Nat) : Int)
    · obtain ⟨A, rfl⟩ := Int.eq_ofNat_of_zero_le hs.1
      have hA : A < 2 ^ m := by omega
      rw [(choice_in m ms h1 h2 h3 hT A hA _ (by omega)).1, (choice_in m ms h1 h2 h3 hT A hA _ (by omega)).2]
      simp only [Option.bind_some, bne_self_eq_false, Bool.false_eq_true, if_false]
      refine tail _ true ?_
      intro k hk y hy
      obtain ⟨k, rfl⟩ : ∃ m, k = m + 1 := ⟨k - 1, by omega⟩
      have hcA := chosen_lt m ms A
      rw [laws_FnChoicesOfOrders.j1]
      simp only [Bool.false_eq_true, if_false, if_true]
      have hsub : andn (chosen m ms A) A = 0 := by
        rw [andn_zero]
        intro i hi
        exact ((chosen_bit m ms A i hA).1 hi).1
      rw [andNot_nat _ _ (by omega) (by omega), hsub, if_pos (show ((0 : Nat) : Int) = 0 from rfl)]
      have j2 : laws_FnChoicesOfOrders.j2 k l1 (A : Int) ((chosen m ms A : Nat) : Int) false (m : Int) (ms.map (fun (x : Nat) => (x : Int))) = some true := by
        obtain ⟨k, rfl⟩ : ∃ m, k = m + 1 := ⟨k - 1, by omega⟩
        rw [laws_FnChoicesOfOrders.j2]
        simp only [Bool.false_eq_true, if_false]
        rw [isOrder_rel m ms h1 h2 h3 hT _ (by omega)]
        simp only [Option.bind_some]
        cases ho : (List.range' 0 m).all (ordRow m ms)
        · simp
        · simp only [if_true]
          obtain ⟨v, ev, hv⟩ := vNumber_ok l1 hl1 b1 k (by omega)
          rw [ev]
          simp only [Option.bind_some]
          rw [if_pos (by omega), shl_one m (by omega), if_neg (by omega)]
          obtain ⟨V, rfl⟩ := Int.eq_ofNat_of_zero_le hv
          have hB : V % 2 ^ m < 2 ^ m := Nat.mod_lt _ hp
          have eB : Int.tmod ((V : Nat) : Int) ((2 ^ m : Nat) : Int) = ((V % 2 ^ m : Nat) : Int) := rfl
          have hcB := chosen_lt m ms (V % 2 ^ m)
          rw [eB, (choice_in m ms h1 h2 h3 hT (V % 2 ^ m) hB k (by omega)).1, or_nat _ _ (by omega) (by omega), (choice_in m ms h1 h2 h3 hT (A ||| V % 2 ^ m) (Nat.or_lt_two_pow hA hB) k (by omega)).1]
          simp only [Option.bind_some, if_true]
          rw [or_nat _ _ (by omega) (by omega), (choice_in m ms h1 h2 h3 hT (chosen m ms A ||| chosen m ms (V % 2 ^ m)) (Nat.or_lt_two_pow hcA hcB) k (by omega)).1]
          simp only [Option.bind_some, if_true]
          rw [path_free m ms h2 h3 ho A (V % 2 ^ m) hA hB]
          simp
      split
      · split
        · exact j2
        · rename_i hy1 hA0
          have hne : chosen m ms A ≠ 0 := by
            rw [hy] at hy1
            have hA1 : 1 ≤ A := by omega
            exact (chosen_zero m ms A hA).2 ((acyclic_iff m ms h2 h3).1 ((noCycle_iff m ms).1 hy1) A hA1 hA)
          have e0 : ((((chosen m ms A : Nat) : Int)) == 0) = false := by
            rw [beq_eq_false_iff_ne]
            omega
          rw [e0]
          exact j2
      · exact j2
    · rw [(choice_out m ms h1 h2 hT S hs _ (by omega)).1, (choice_out m ms h1 h2 hT S hs _ (by omega)).2]
      simp only [Option.bind_some, bne_self_eq_false, Bool.false_eq_true, if_false]
      refine tail _ false ?_
      intro k hk y _
      obtain ⟨k, rfl⟩ : ∃ m, k = m + 1 := ⟨k - 1, by omega⟩
      rw [laws_FnChoicesOfOrders.j1]
      simp

end Go.Proofs.YtpippjgphndjmaaDoor.Pure
