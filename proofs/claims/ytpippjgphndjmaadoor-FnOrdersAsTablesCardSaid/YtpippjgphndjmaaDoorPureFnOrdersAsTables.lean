/- Orders as tables: for every two texts the law is true; no condition. -/
import Derived.Test.YtpippjgphndjmaaDoorPFnOrdersAsTablesx12
namespace Go.Proofs.YtpippjgphndjmaaDoor.Pure
open Go.RowKit Go.Proofs.YtpippjgphndjmaaDoor.PFnOrdersAsTables Go.Proofs.YtpippjgphndjmaaDoorW.PrintWords Go.Proofs.YtpippjgphndjmaaDoorW.PrintLast Go.Proofs.YtpippjgphndjmaaDoorW.PrintMore
set_option linter.unusedVariables false
set_option linter.unusedSimpArgs false

theorem wrap_ok {x : Int} (h0 : -9223372036854775808 ≤ x) (h1 : x < 9223372036854775808) : wrap64 x = x := by unfold wrap64; omega
theorem wf_bounds {x : Int} (h : (Lit.int .i64 x).wf = true) : -9223372036854775808 ≤ x ∧ x < 9223372036854775808 := by
  have e : IntKind.i64.min ≤ x ∧ x ≤ 9223372036854775807 := by simpa [Lit.wf] using h
  have m : IntKind.i64.min = -9223372036854775808 := by decide
  omega
theorem rd_nat (l : List Int) (i : Nat) : rd l (i : Int) = l.getD i 0 := by simp [rd]

theorem within_eq (a b c : Int) : impl_within.f a b c = some (decide (b ≤ a ∧ a ≤ c)) := by
  unfold impl_within.f
  by_cases h : a ≥ b <;> simp [h] <;> omega
theorem l1In_eq (a b c : Int) : spec_l1In.f a b c = some (decide (b ≤ a ∧ a ≤ c)) := by
  unfold spec_l1In.f
  by_cases h : a ≥ b <;> simp [h] <;> omega

def allIn (l : List Int) (a b : Int) : Bool := l.all fun x => decide (a ≤ x ∧ x ≤ b)
theorem getD_drop (l : List Int) (i : Nat) (h : i < l.length) : l.drop i = l.getD i 0 :: l.drop (i + 1) := by
  rw [List.drop_eq_getElem_cons h]
  simp [h]
theorem allWithin_l0 (l : List Int) (a b : Int) (hl : l.length ≤ 4611686018427387904) : ∀ (d k i : Nat), i + d = l.length → d < k → impl_allWithin.l0 k a b l (l.length : Int) (i : Int) = some (allIn (l.drop i) a b) := by
  intro d
  induction d with
  | zero =>
    intro k i h hk
    obtain ⟨k, rfl⟩ : ∃ m, k = m + 1 := ⟨k - 1, by omega⟩
    simp only [impl_allWithin.l0]
    rw [if_neg (by omega), List.drop_eq_nil_of_le (by omega)]
    rfl
  | succ d ih =>
    intro k i h hk
    obtain ⟨k, rfl⟩ : ∃ m, k = m + 1 := ⟨k - 1, by omega⟩
    simp only [impl_allWithin.l0]
    rw [if_pos (by omega), if_pos (by omega), if_pos (by omega), wrap_ok (by omega) (by omega), within_eq, getD_drop l i (by omega), rd_nat]
    have e : ((i : Int) + 1) = ((i + 1 : Nat) : Int) := by omega
    rw [e, ih k (i + 1) (by omega) (by omega)]
    simp only [Option.bind_some, allIn, List.all_cons]
    cases decide (a ≤ l.getD i 0 ∧ l.getD i 0 ≤ b) <;> simp
theorem allWithin_k (l : List Int) (a b : Int) (hl : l.length ≤ 4611686018427387904) (k : Nat) (hk : l.length < k) : impl_allWithin.f k l a b = some (allIn l a b) := by
  unfold impl_allWithin.f
  exact allWithin_l0 l a b hl l.length k 0 (by omega) hk
theorem l1All_l0 (l : List Int) (a b : Int) (hl : l.length ≤ 4611686018427387904) : ∀ (d k i : Nat), i + d = l.length → d < k → spec_l1All.l0 k a b l (l.length : Int) (i : Int) = some (allIn (l.drop i) a b) := by
  intro d
  induction d with
  | zero =>
    intro k i h hk
    obtain ⟨k, rfl⟩ : ∃ m, k = m + 1 := ⟨k - 1, by omega⟩
    simp only [spec_l1All.l0]
    rw [if_neg (by omega), List.drop_eq_nil_of_le (by omega)]
    rfl
  | succ d ih =>
    intro k i h hk
    obtain ⟨k, rfl⟩ : ∃ m, k = m + 1 := ⟨k - 1, by omega⟩
    simp only [spec_l1All.l0]
    rw [if_pos (by omega), if_pos (by omega), if_pos (by omega), wrap_ok (by omega) (by omega), l1In_eq, getD_drop l i (by omega), rd_nat]
    have e : ((i : Int) + 1) = ((i + 1 : Nat) : Int) := by omega
    rw [e, ih k (i + 1) (by omega) (by omega)]
    simp only [Option.bind_some, allIn, List.all_cons]
    cases decide (a ≤ l.getD i 0 ∧ l.getD i 0 ≤ b) <;> simp
theorem l1All_k (l : List Int) (a b : Int) (hl : l.length ≤ 4611686018427387904) (k : Nat) (hk : l.length < k) : spec_l1All.f k l a b = some (allIn l a b) := by
  unfold spec_l1All.f
  exact l1All_l0 l a b hl l.length k 0 (by omega) hk

/-- A table, told as data. -/
def isTab (R C : Int) (M : List Int) : Bool := decide (1 ≤ R ∧ R ≤ 6) && decide (1 ≤ C ∧ C ≤ 6) && decide ((M.length : Int) = R) && allIn M 0 (wrap64 (shl .i64 1 C - 1))
theorem IsTable_k (R C : Int) (M : List Int) (hM : M.length ≤ 4611686018427387904) (k : Nat) (hk : M.length < k) : impl_IsTable.f k R C M = some (isTab R C M) := by
  unfold impl_IsTable.f isTab
  simp only [within_eq, Option.bind_some]
  by_cases h1 : 1 ≤ R ∧ R ≤ 6
  · by_cases h2 : 1 ≤ C ∧ C ≤ 6
    · by_cases h3 : (M.length : Int) = R
      · rw [if_pos h3, if_pos (show 0 ≤ C by omega), allWithin_k M _ _ hM k hk]
        simp [h1, h2, h3]
      · rw [if_neg h3]
        simp [h1, h2, h3]
    · simp [h1, h2]
  · simp [h1]
def andn (a b : Nat) : Nat := a ^^^ (a &&& b)
theorem andn_bit (a b i : Nat) : (andn a b).testBit i = (a.testBit i && !b.testBit i) := by
  unfold andn
  rw [Nat.testBit_xor, Nat.testBit_and]
  cases a.testBit i <;> cases b.testBit i <;> rfl
theorem wrap_i64_nat (n : Nat) (h : n < 2 ^ 63) : IntKind.i64.wrap (n : Int) = (n : Int) := by
  rw [IntKind.wrap_i64]
  have : (n : Int) < 9223372036854775808 := by omega
  omega
theorem ofInt_toNat (n : Nat) (h : n < 2 ^ 63) : (BitVec.ofInt 64 (n : Int)).toNat = n := by
  rw [BitVec.ofInt_natCast, BitVec.toNat_ofNat, Nat.mod_eq_of_lt (by omega)]
theorem and_nat (a b : Nat) (ha : a < 2 ^ 63) (hb : b < 2 ^ 63) : Go.bits .and .i64 (a : Int) (b : Int) = ((a &&& b : Nat) : Int) := by
  unfold Go.bits
  show IntKind.i64.wrap ((BitVec.ofInt 64 (a : Int) &&& BitVec.ofInt 64 (b : Int)).toNat : Int) = _
  rw [BitVec.toNat_and, ofInt_toNat a ha, ofInt_toNat b hb]
  exact wrap_i64_nat _ (Nat.lt_of_le_of_lt Nat.and_le_left ha)
theorem or_nat (a b : Nat) (ha : a < 2 ^ 63) (hb : b < 2 ^ 63) : Go.bits .or .i64 (a : Int) (b : Int) = ((a ||| b : Nat) : Int) := by
  unfold Go.bits
  show IntKind.i64.wrap ((BitVec.ofInt 64 (a : Int) ||| BitVec.ofInt 64 (b : Int)).toNat : Int) = _
  rw [BitVec.toNat_or, ofInt_toNat a ha, ofInt_toNat b hb]
  exact wrap_i64_nat _ (Nat.or_lt_two_pow ha hb)
theorem xor_nat (a b : Nat) (ha : a < 2 ^ 63) (hb : b < 2 ^ 63) : Go.bits .xor .i64 (a : Int) (b : Int) = ((a ^^^ b : Nat) : Int) := by
  unfold Go.bits
  show IntKind.i64.wrap ((BitVec.ofInt 64 (a : Int) ^^^ BitVec.ofInt 64 (b : Int)).toNat : Int) = _
  rw [BitVec.toNat_xor, ofInt_toNat a ha, ofInt_toNat b hb]
  exact wrap_i64_nat _ (Nat.xor_lt_two_pow ha hb)
theorem andn_le (a b : Nat) : andn a b ≤ a := Nat.le_of_testBit fun i h => by
  rw [andn_bit] at h
  cases h1 : a.testBit i
  · simp [h1] at h
  · rfl
theorem andNot_nat (a b : Nat) (ha : a < 2 ^ 63) (hb : b < 2 ^ 63) : Go.bits .andNot .i64 (a : Int) (b : Int) = ((andn a b : Nat) : Int) := by
  unfold Go.bits
  show IntKind.i64.wrap ((BitVec.ofInt 64 (a : Int) &&& ~~~ BitVec.ofInt 64 (b : Int)).toNat : Int) = _
  have e : (BitVec.ofInt 64 (a : Int) &&& ~~~ BitVec.ofInt 64 (b : Int)).toNat = andn a b := by
    apply Nat.eq_of_testBit_eq
    intro i
    rw [andn_bit, BitVec.toNat_and, Nat.testBit_and, ofInt_toNat a ha, BitVec.testBit_toNat, BitVec.getLsbD_not, BitVec.ofInt_natCast, BitVec.getLsbD_ofNat]
    by_cases hi : i < 64
    · rw [decide_eq_true hi]
      simp only [Bool.true_and]
    · have : a.testBit i = false := Nat.testBit_lt_two_pow (Nat.lt_of_lt_of_le ha (Nat.pow_le_pow_right (by omega) (by omega)))
      simp [this]
  rw [e]
  exact wrap_i64_nat _ (Nat.lt_of_le_of_lt (andn_le a b) ha)
theorem andn_zero (a b : Nat) : andn a b = 0 ↔ ∀ i, a.testBit i = true → b.testBit i = true := by
  constructor
  · intro h i hi
    have := andn_bit a b i
    rw [h, hi] at this
    cases hb : b.testBit i
    · simp [hb] at this
    · rfl
  · intro h
    apply Nat.eq_of_testBit_eq
    intro i
    rw [andn_bit]
    cases ha : a.testBit i
    · simp
    · simp [h i ha]
theorem andn_zero_le {a b : Nat} (h : andn a b = 0) : a ≤ b := Nat.le_of_testBit fun i hi => (andn_zero a b).1 h i hi
theorem andNot_le {p i : Int} (h0 : 0 ≤ p) (h1 : 0 ≤ i) (hp : p < 9223372036854775808) (hi : i < 9223372036854775808) (h : Go.bits .andNot .i64 p i = 0) : p ≤ i := by
  obtain ⟨a, rfl⟩ := Int.eq_ofNat_of_zero_le h0
  obtain ⟨b, rfl⟩ := Int.eq_ofNat_of_zero_le h1
  rw [andNot_nat a b (by omega) (by omega)] at h
  have := andn_zero_le (a := a) (b := b) (by omega)
  omega

/-- The set of the j < n for which q tells true. -/
def bitsum (q : Nat → Bool) : Nat → Nat
  | 0 => 0
  | j + 1 => bitsum q j ||| (if q j then 2 ^ j else 0)
theorem bitsum_lt (q : Nat → Bool) (n : Nat) : bitsum q n < 2 ^ n := by
  induction n with
  | zero => simp [bitsum]
  | succ n ih =>
    rw [bitsum]
    apply Nat.or_lt_two_pow
    · exact Nat.lt_of_lt_of_le ih (Nat.pow_le_pow_right (by omega) (by omega))
    · split
      · exact Nat.pow_lt_pow_right (by omega) (by omega)
      · exact Nat.two_pow_pos _
theorem bitsum_bit (q : Nat → Bool) (n i : Nat) : (bitsum q n).testBit i = (decide (i < n) && q i) := by
  induction n with
  | zero => simp [bitsum]
  | succ n ih =>
    rw [bitsum, Nat.testBit_or, ih]
    by_cases e : i = n
    · subst e
      cases h : q i <;> simp [Nat.testBit_two_pow_self]
    · have : (if q n then 2 ^ n else 0).testBit i = false := by
        split
        · rw [Nat.testBit_two_pow_of_ne (by omega)]
        · simp
      rw [this]
      by_cases h : i < n
      · simp [h, show i < n + 1 by omega]
      · simp [h, show ¬ i < n + 1 by omega]
theorem bitsum_congr {q q' : Nat → Bool} (n : Nat) (h : ∀ i, i < n → q i = q' i) : bitsum q n = bitsum q' n := by
  induction n with
  | zero => rfl
  | succ n ih => rw [bitsum, bitsum, ih (fun i hi => h i (by omega)), h n (by omega)]
theorem shl_one (j : Nat) (h : j < 62) : shl .i64 1 (j : Int) = ((2 ^ j : Nat) : Int) := by
  unfold shl
  have e : min (j : Int).toNat IntKind.i64.bits = j := by
    show min (j : Int).toNat 64 = j
    omega
  rw [e]
  have e2 : (1 : Int) * 2 ^ j = ((2 ^ j : Nat) : Int) := by simp
  rw [e2]
  exact wrap_i64_nat _ (Nat.pow_lt_pow_right (by omega) (by omega))
theorem or_shl (a j : Nat) (ha : a < 2 ^ 62) (hj : j < 62) : Go.bits .or .i64 (a : Int) (shl .i64 1 (j : Int)) = ((a ||| 2 ^ j : Nat) : Int) := by
  rw [shl_one j hj]
  exact or_nat a _ (Nat.lt_of_lt_of_le ha (by decide)) (Nat.pow_lt_pow_right (by omega) (by omega))
/-- The rows' sets. -/
def relList (R C : Nat) (p : Nat → Nat → Bool) : List Int := (List.range R).map fun i => ((bitsum (p i) C : Nat) : Int)
theorem relList_length (R C : Nat) (p : Nat → Nat → Bool) : (relList R C p).length = R := by simp [relList]
theorem relList_congr {R C : Nat} {p p' : Nat → Nat → Bool} (h : ∀ i j, i < R → j < C → p i j = p' i j) : relList R C p = relList R C p' := by
  unfold relList
  apply List.map_congr_left
  intro i hi
  rw [bitsum_congr C (fun j hj => h i j (by simpa using hi) hj)]
/-- A list that is being filled: the first i rows are whole, the row i has the columns < j, the others are 0. -/
def part (R C : Nat) (p : Nat → Nat → Bool) (i j : Nat) : List Int := (List.range R).map fun r => if r < i then ((bitsum (p r) C : Nat) : Int) else if r = i then ((bitsum (p r) j : Nat) : Int) else 0
theorem part_length (R C : Nat) (p : Nat → Nat → Bool) (i j : Nat) : (part R C p i j).length = R := by simp [part]
theorem part_start (R C : Nat) (p : Nat → Nat → Bool) : List.replicate R 0 = part R C p 0 0 := by
  apply List.ext_getElem?
  intro r
  by_cases h : r < R
  · simp [part, h, List.getElem?_replicate, bitsum]
  · rw [List.getElem?_eq_none (by simp; omega), List.getElem?_eq_none (by rw [part_length]; omega)]
theorem part_next (R C : Nat) (p : Nat → Nat → Bool) (i : Nat) : part R C p i C = part R C p (i + 1) 0 := by
  apply List.ext_getElem?
  intro r
  by_cases h : r < R
  · simp only [part, List.getElem?_map, List.getElem?_range h, Option.map_some]
    by_cases h1 : r < i
    · simp [h1, show r < i + 1 by omega]
    · by_cases h2 : r = i
      · simp [h2]
      · simp [h1, h2, show ¬ r < i + 1 by omega, bitsum]
  · rw [List.getElem?_eq_none (by rw [part_length]; omega), List.getElem?_eq_none (by rw [part_length]; omega)]
theorem part_end (R C : Nat) (p : Nat → Nat → Bool) : part R C p R 0 = relList R C p := by
  unfold part relList
  apply List.map_congr_left
  intro r hr
  rw [if_pos (by simpa using hr)]
theorem part_rd (R C : Nat) (p : Nat → Nat → Bool) (i j : Nat) (hi : i < R) : rd (part R C p i j) (i : Int) = ((bitsum (p i) j : Nat) : Int) := by
  rw [rd_nat]
  simp [part, List.getD_eq_getElem?_getD, hi]
theorem part_set (R C : Nat) (p : Nat → Nat → Bool) (i j : Nat) (hi : i < R) (hp : p i j = true) : (part R C p i j).set i ((bitsum (p i) j ||| 2 ^ j : Nat) : Int) = part R C p i (j + 1) := by
  apply List.ext_getElem?
  intro r
  by_cases h : r < R
  · rw [List.getElem?_set]
    simp only [part, List.getElem?_map, List.getElem?_range h, Option.map_some, List.length_map, List.length_range]
    by_cases e : i = r
    · subst e
      simp [h, bitsum, hp]
    · rw [if_neg e]
      simp [show ¬ r = i from fun h => e h.symm]
  · rw [List.getElem?_eq_none (by simp [part_length]; omega), List.getElem?_eq_none (by rw [part_length]; omega)]
theorem part_skip (R C : Nat) (p : Nat → Nat → Bool) (i j : Nat) (hp : p i j = false) : part R C p i j = part R C p i (j + 1) := by
  unfold part
  apply List.map_congr_left
  intro r _
  by_cases h1 : r < i
  · simp [h1]
  · by_cases h2 : r = i
    · subst h2
      simp [bitsum, hp]
    · simp [h1, h2]

/-- A relation, told as data. -/
def isRel (n : Int) (l : List Int) : Bool := decide (0 ≤ n ∧ n ≤ 10) && decide ((l.length : Int) = n) && allIn l 0 (wrap64 (shl .i64 1 n - 1))
theorem IsRelation_k (n : Int) (l : List Int) (hl : l.length ≤ 4611686018427387904) (k : Nat) (hk : l.length < k) : impl_IsRelation.f k n l = some (isRel n l) := by
  unfold impl_IsRelation.f isRel
  simp only [within_eq, Option.bind_some]
  by_cases h1 : 0 ≤ n ∧ n ≤ 10
  · by_cases h3 : (l.length : Int) = n
    · rw [if_pos h3, if_pos (show 0 ≤ n by omega), allWithin_k l _ _ hl k hk]
      simp [h1, h3]
    · rw [if_neg h3]
      simp [h1, h3]
  · simp [h1]
theorem orRelation_k (n : Int) (l : List Int) (hl : l.length ≤ 4611686018427387904) (k : Nat) (hk : l.length < k) : spec_orRelation.f k n l = some (isRel n l) := by
  unfold spec_orRelation.f isRel
  simp only [l1In_eq, Option.bind_some]
  by_cases h1 : 0 ≤ n ∧ n ≤ 10
  · by_cases h3 : (l.length : Int) = n
    · rw [if_pos h3, if_pos (show 0 ≤ n by omega), l1All_k l _ _ hl k hk]
      simp [h1, h3]
    · rw [if_neg h3]
      simp [h1, h3]
  · simp [h1]
theorem allIn_iff (l : List Int) (a b : Int) : allIn l a b = true ↔ ∀ x ∈ l, a ≤ x ∧ x ≤ b := by
  unfold allIn
  rw [List.all_eq_true]
  simp
theorem ones_eq (c : Nat) (h : c ≤ 60) : wrap64 (shl .i64 1 (c : Int) - 1) = ((2 ^ c - 1 : Nat) : Int) := by
  have hp : 0 < 2 ^ c := Nat.two_pow_pos _
  have hq : 2 ^ c ≤ 2 ^ 60 := Nat.pow_le_pow_right (by omega) h
  rw [shl_one c (by omega), wrap_ok (by omega) (by omega)]
  omega
/-- What a relation is: its size and each element's betters as a number. -/
theorem isRel_iff (n : Int) (l : List Int) : isRel n l = true ↔ ∃ (m : Nat) (ms : List Nat), n = (m : Int) ∧ l = ms.map (fun (x : Nat) => (x : Int)) ∧ m ≤ 10 ∧ ms.length = m ∧ ∀ x ∈ ms, x < 2 ^ m := by
  unfold isRel
  simp only [Bool.and_eq_true, decide_eq_true_eq, allIn_iff]
  constructor
  · rintro ⟨⟨h1, h3⟩, h4⟩
    have ec : n = ((n.toNat : Nat) : Int) := by omega
    have e5 : wrap64 (shl .i64 1 n - 1) = ((2 ^ n.toNat - 1 : Nat) : Int) := by
      rw [ec]
      have := ones_eq n.toNat (by omega)
      have e6 : (((n.toNat : Nat) : Int)).toNat = n.toNat := by omega
      rw [e6]
      exact this
    rw [e5] at h4
    refine ⟨n.toNat, l.map Int.toNat, ec, ?_, by omega, by simp; omega, ?_⟩
    · rw [List.map_map]
      conv => lhs; rw [← List.map_id l]
      apply List.map_congr_left
      intro x hx
      have := h4 x hx
      show x = ((x.toNat : Nat) : Int)
      omega
    · intro x hx
      obtain ⟨y, hy, rfl⟩ := List.mem_map.1 hx
      have := h4 y hy
      have hp : 0 < 2 ^ n.toNat := Nat.two_pow_pos _
      omega
  · rintro ⟨m, ms, rfl, rfl, h1, h2, h3⟩
    have hp : 0 < 2 ^ m := Nat.two_pow_pos _
    refine ⟨⟨by omega, by simp; omega⟩, ?_⟩
    intro x hx
    obtain ⟨y, hy, rfl⟩ := List.mem_map.1 hx
    have := h3 y hy
    rw [ones_eq m (by omega)]
    omega
theorem rd_map (ms : List Nat) (i : Nat) : rd (ms.map (fun (x : Nat) => (x : Int))) (i : Int) = ((ms.getD i 0 : Nat) : Int) := by
  rw [rd_nat]
  simp only [List.getD_eq_getElem?_getD, List.getElem?_map]
  cases ms[i]? <;> simp
theorem getD_lt {ms : List Nat} {b : Nat} (hb : 0 < b) (h : ∀ x ∈ ms, x < b) (i : Nat) : ms.getD i 0 < b := by
  rw [List.getD_eq_getElem?_getD]
  cases hx : ms[i]? with
  | none => simpa using hb
  | some x => exact h x (List.mem_of_getElem? hx)

/-- The bit of a number, as Go asks it. -/
theorem shr_nat (x c : Nat) (hc : c < 64) : shr .i64 (x : Int) (c : Int) = ((x / 2 ^ c : Nat) : Int) := by
  unfold shr
  have e : min (c : Int).toNat IntKind.i64.bits = c := by
    show min (c : Int).toNat 64 = c
    omega
  rw [e]
  simp

theorem bit_and (x c : Nat) (hx : x < 2 ^ 63) (hc : c < 64) : (Go.bits .and .i64 (shr .i64 (x : Int) (c : Int)) 1 == 1) = x.testBit c := by
  rw [shr_nat x c hc]
  have h1 : x / 2 ^ c < 2 ^ 63 := Nat.lt_of_le_of_lt (Nat.div_le_self _ _) hx
  have e : Go.bits .and .i64 ((x / 2 ^ c : Nat) : Int) 1 = ((x / 2 ^ c &&& 1 : Nat) : Int) := and_nat _ 1 h1 (by decide)
  rw [e, Nat.and_one_is_mod]
  have e2 : x.testBit c = decide (x / 2 ^ c % 2 = 1) := Nat.testBit_eq_decide_div_mod_eq
  rw [e2]
  by_cases h : x / 2 ^ c % 2 = 1
  · simp [h]
  · have : x / 2 ^ c % 2 = 0 := by omega
    simp [this]

theorem tmod_nat (n : Nat) : Int.tmod (n : Int) 2 = ((n % 2 : Nat) : Int) := by
  rw [Int.tmod_eq_emod_of_nonneg (by omega)]
  omega
theorem orHas_k (x i : Nat) (hi : i < 64) : spec_orHas.f (x : Int) (i : Int) = some (x.testBit i) := by
  unfold spec_orHas.f
  rw [if_pos (by omega), shr_nat x i hi, tmod_nat]
  have e2 : x.testBit i = decide (x / 2 ^ i % 2 = 1) := Nat.testBit_eq_decide_div_mod_eq
  rw [e2]
  congr 1
  by_cases h : x / 2 ^ i % 2 = 1
  · simp [h]
  · have : x / 2 ^ i % 2 = 0 := by omega
    simp [this]

/-- The elements of a set that are less than m. -/
def elemsTo (x m : Nat) : List Nat := (List.range m).filter x.testBit
theorem elemsTo_succ (x m : Nat) : elemsTo x (m + 1) = elemsTo x m ++ (if x.testBit m = true then [m] else []) := by
  unfold elemsTo
  rw [List.range_succ, List.filter_append]
  by_cases h : x.testBit m = true <;> simp [h]
theorem elemsTo_length (x m : Nat) : (elemsTo x m).length ≤ m := by
  have := List.length_filter_le x.testBit (List.range m)
  simpa [elemsTo] using this
theorem elemsTo_more (x i d : Nat) (h : x < 2 ^ i) : elemsTo x (i + d) = elemsTo x i := by
  induction d with
  | zero => rfl
  | succ d ih =>
    rw [show i + (d + 1) = (i + d) + 1 from rfl, elemsTo_succ, ih]
    have : x.testBit (i + d) = false := Nat.testBit_lt_two_pow (Nat.lt_of_lt_of_le h (Nat.pow_le_pow_right (by omega) (by omega)))
    simp [this]
theorem orList_l0 (x m : Nat) (hx : x < 2 ^ m) (hm : m ≤ 60) : ∀ (d k i : Nat), i + d = m → d < k → spec_orList.l0 k (x : Int) ((elemsTo x i).map (fun (y : Nat) => (y : Int))) (i : Int) = some ((elemsTo x m).map (fun (y : Nat) => (y : Int))) := by
  intro d
  induction d with
  | zero =>
    intro k i hi hk
    obtain ⟨k, rfl⟩ : ∃ q, k = q + 1 := ⟨k - 1, by omega⟩
    have e : i = m := by omega
    subst e
    have h0 : x / 2 ^ i = 0 := Nat.div_eq_of_lt hx
    simp only [spec_orList.l0]
    rw [if_pos (by omega), shr_nat x i (by omega), h0, if_neg (by omega)]
  | succ d ih =>
    intro k i hi hk
    obtain ⟨k, rfl⟩ : ∃ q, k = q + 1 := ⟨k - 1, by omega⟩
    simp only [spec_orList.l0]
    rw [if_pos (by omega), shr_nat x i (by omega)]
    by_cases h0 : x / 2 ^ i = 0
    · rw [h0, if_neg (by omega)]
      have hlt : x < 2 ^ i := by
        have := Nat.div_eq_zero_iff.1 h0
        have hp := Nat.two_pow_pos i
        omega
      have := elemsTo_more x i (d + 1) hlt
      rw [hi] at this
      rw [this]
    · have hl := elemsTo_length x i
      have next := ih k (i + 1) (by omega) (by omega)
      have hpos : ((x / 2 ^ i : Nat) : Int) > 0 := Int.natCast_pos.2 (Nat.pos_of_ne_zero h0)
      rw [if_pos hpos, orHas_k x i (by omega), wrap_ok (by omega) (by omega), show ((i : Int) + 1) = ((i + 1 : Nat) : Int) by omega]
      simp only [Option.bind_some]
      rw [elemsTo_succ] at next
      cases hb : x.testBit i
      · rw [if_neg (by simp)]
        simpa [hb] using next
      · rw [if_pos rfl, if_pos (by simp; omega)]
        simpa [hb] using next
theorem orList_k (x m : Nat) (hx : x < 2 ^ m) (hm : m ≤ 60) (k : Nat) (hk : m < k) : spec_orList.f k (x : Int) = some ((elemsTo x m).map (fun (y : Nat) => (y : Int))) := by
  unfold spec_orList.f
  exact orList_l0 x m hx hm m k 0 (by omega) hk

theorem elems_mem (x m i : Nat) : (∃ q, q < (elemsTo x m).length ∧ (elemsTo x m).getD q 0 = i) ↔ i < m ∧ x.testBit i = true := by
  have h : i ∈ elemsTo x m ↔ i < m ∧ x.testBit i = true := by
    unfold elemsTo
    rw [List.mem_filter, List.mem_range]
  rw [← h]
  constructor
  · rintro ⟨q, hq, rfl⟩
    rw [List.getD_eq_getElem?_getD, List.getElem?_eq_getElem hq]
    exact List.getElem_mem hq
  · intro hi
    obtain ⟨q, hq, e⟩ := List.getElem_of_mem hi
    refine ⟨q, hq, ?_⟩
    rw [List.getD_eq_getElem?_getD, List.getElem?_eq_getElem hq]
    exact e
theorem elems_lt2 (x m j : Nat) (hj : j < (elemsTo x m).length) : (elemsTo x m).getD j 0 < m := ((elems_mem x m _).1 ⟨j, hj, rfl⟩).1

theorem better_k (N : Int) (l : List Int) (i j x : Nat) (hi : i < l.length) (hx : rd l (i : Int) = (x : Int)) (hx2 : x < 2 ^ 60) (hj : j < 60) : impl_Order_better.f N l (i : Int) (j : Int) = some (x.testBit j) := by
  unfold impl_Order_better.f
  rw [if_pos (by omega), if_pos (by omega), if_pos (by omega), hx, bit_and x j (by omega) (by omega)]

theorem members_all : ∀ x, x < 1024 → impl_members.f 12 ((x : Nat) : Int) = some ((elemsTo x 10).map (fun (y : Nat) => (y : Int))) := by decide +kernel
theorem members_k (x m : Nat) (hx : x < 2 ^ m) (hm : m ≤ 10) (k : Nat) (hk : 12 ≤ k) : impl_members.f k (x : Int) = some ((elemsTo x m).map (fun (y : Nat) => (y : Int))) := by
  have h0 := members_all x (Nat.lt_of_lt_of_le hx (Nat.pow_le_pow_right (n := 2) (by omega) hm))
  have e := elemsTo_more x m (10 - m) hx
  rw [show m + (10 - m) = 10 by omega] at e
  rw [e] at h0
  obtain ⟨d, rfl⟩ : ∃ d, k = 12 + d := ⟨k - 12, by omega⟩
  clear hk
  induction d with
  | zero => exact h0
  | succ d ih => exact impl_members.mono _ _ _ ih

/-- Each number of a list, from an index, is more than the one before. -/
def Rising (l : List Int) : Prop := ∀ j, 1 ≤ j → j < l.length → l.getD (j - 1) 0 < l.getD j 0
theorem isIncreasing_l0 (l : List Int) (hl : l.length ≤ 4611686018427387904) : ∀ (d k i : Nat), i + d = l.length ∨ (d = 0 ∧ l.length < i) → 1 ≤ i → i ≤ 4611686018427387904 → d < k →
    ∃ b, impl_isIncreasing.l0 k l (i : Int) = some b ∧ (b = true ↔ ∀ j, i ≤ j → j < l.length → l.getD (j - 1) 0 < l.getD j 0) := by
  intro d
  induction d with
  | zero =>
    intro k i h _ _ hk
    obtain ⟨k, rfl⟩ : ∃ m, k = m + 1 := ⟨k - 1, by omega⟩
    simp only [impl_isIncreasing.l0]
    refine ⟨true, by rw [if_neg (by omega)], ?_⟩
    simp only [true_iff]
    intro j h1 h2
    omega
  | succ d ih =>
    intro k i h h1 hi hk
    obtain ⟨k, rfl⟩ : ∃ m, k = m + 1 := ⟨k - 1, by omega⟩
    simp only [impl_isIncreasing.l0]
    have e : ((i : Int) - 1) = ((i - 1 : Nat) : Int) := by omega
    have e2 : ((i : Int) + 1) = ((i + 1 : Nat) : Int) := by omega
    rw [if_pos (by omega), wrap_ok (by omega) (by omega), wrap_ok (by omega) (by omega), if_pos (by omega), if_pos (by omega), if_pos (by omega), e, rd_nat, rd_nat, e2]
    by_cases hc : l.getD (i - 1) 0 ≥ l.getD i 0
    · refine ⟨false, by rw [if_pos hc], ?_⟩
      constructor
      · intro hh
        cases hh
      · intro hh
        have := hh i (by omega) (by omega)
        omega
    · obtain ⟨b, hb1, hb2⟩ := ih k (i + 1) (by omega) (by omega) (by omega) (by omega)
      refine ⟨b, by rw [if_neg hc, hb1], hb2.trans ?_⟩
      constructor
      · intro hh j h3 h4
        by_cases he : j = i
        · subst he
          omega
        · exact hh j (by omega) h4
      · intro hh j h3 h4
        exact hh j (by omega) h4
theorem isIncreasing_k (l : List Int) (hl : l.length ≤ 4611686018427387900) (k : Nat) (hk : l.length < k) : ∃ b, impl_isIncreasing.f k l = some b ∧ (b = true ↔ Rising l) := by
  unfold impl_isIncreasing.f
  cases l with
  | nil => exact isIncreasing_l0 [] (by simp) 0 k 1 (by simp) (by omega) (by omega) (by simp at hk; omega)
  | cons a l => exact isIncreasing_l0 (a :: l) (by omega) l.length k 1 (by simp; omega) (by omega) (by omega) (by simp at hk; omega)
/-- In the bounds and rising. -/
def InRise (l : List Int) (a b : Int) (i : Nat) : Prop := ∀ j, i ≤ j → j < l.length → (a ≤ l.getD j 0 ∧ l.getD j 0 ≤ b) ∧ (1 ≤ j → l.getD (j - 1) 0 < l.getD j 0)
theorem rising_l0 (l : List Int) (a b : Int) (hl : l.length ≤ 4611686018427387900) : ∀ (d k i : Nat), i + d = l.length → d < k →
    ∃ r, spec_l1Rising.l0 k l a b l (l.length : Int) (i : Int) = some r ∧ (r = true ↔ InRise l a b i) := by
  intro d
  induction d with
  | zero =>
    intro k i h hk
    obtain ⟨k, rfl⟩ : ∃ m, k = m + 1 := ⟨k - 1, by omega⟩
    simp only [spec_l1Rising.l0]
    refine ⟨true, by rw [if_neg (by omega)], ?_⟩
    simp only [true_iff]
    intro j h1 h2
    omega
  | succ d ih =>
    intro k i h hk
    obtain ⟨k, rfl⟩ : ∃ m, k = m + 1 := ⟨k - 1, by omega⟩
    obtain ⟨r, hr1, hr2⟩ := ih k (i + 1) (by omega) (by omega)
    simp only [spec_l1Rising.l0]
    have e2 : ((i : Int) + 1) = ((i + 1 : Nat) : Int) := by omega
    rw [if_pos (by omega), if_pos (by omega), if_pos (by omega), wrap_ok (x := (i : Int) + 1) (by omega) (by omega), l1In_eq, rd_nat, e2, hr1]
    simp only [Option.bind_some]
    by_cases h1 : a ≤ l.getD i 0 ∧ l.getD i 0 ≤ b
    · rw [if_pos (by simpa using h1)]
      by_cases h0 : i = 0
      · subst h0
        refine ⟨r, by rw [if_neg (by omega)], hr2.trans ?_⟩
        constructor
        · intro hh j h3 h4
          by_cases he : j = 0
          · subst he
            exact ⟨h1, fun h => by omega⟩
          · exact hh j (by omega) h4
        · intro hh j h3 h4
          exact hh j (by omega) h4
      · have e : ((i : Int) - 1) = ((i - 1 : Nat) : Int) := by omega
        rw [if_pos (by omega), wrap_ok (by omega) (by omega), if_pos (by omega), if_pos (by omega), e, rd_nat]
        by_cases hc : l.getD (i - 1) 0 ≥ l.getD i 0
        · refine ⟨false, by rw [if_pos hc], ?_⟩
          constructor
          · intro hh
            cases hh
          · intro hh
            have := (hh i (by omega) (by omega)).2 (by omega)
            omega
        · refine ⟨r, by rw [if_neg hc], hr2.trans ?_⟩
          constructor
          · intro hh j h3 h4
            by_cases he : j = i
            · subst he
              exact ⟨h1, fun _ => by omega⟩
            · exact hh j (by omega) h4
          · intro hh j h3 h4
            exact hh j (by omega) h4
    · refine ⟨false, by rw [if_neg (by simpa using h1)], ?_⟩
      constructor
      · intro hh
        cases hh
      · intro hh
        exact absurd (hh i (by omega) (by omega)).1 h1
theorem rising_k (l : List Int) (a b : Int) (hl : l.length ≤ 4611686018427387900) (k : Nat) (hk : l.length < k) : ∃ r, spec_l1Rising.f k l a b = some r ∧ (r = true ↔ InRise l a b 0) := by
  unfold spec_l1Rising.f
  exact rising_l0 l a b hl l.length k 0 (by omega) hk

/-- Is a row that of an order: the element isn't better than itself, and what is better than its betters is among them. -/
def ordRow (n : Nat) (ms : List Nat) (i : Nat) : Bool := !(ms.getD i 0).testBit i && (List.range' 0 (elemsTo (ms.getD i 0) n).length).all fun q => decide (andn (ms.getD ((elemsTo (ms.getD i 0) n).getD q 0) 0) (ms.getD i 0) = 0)
theorem impl_IsOrder_l0 (n : Nat) (hn : n ≤ 10) (ms : List Nat) (hl : ms.length = n) (hb : ∀ x ∈ ms, x < 2 ^ n) : ∀ (d k i : Nat), i + d = n → d * 14 + 20 < k →
    impl_IsOrder.l0 k (ms.map (fun (x : Nat) => (x : Int))) (n : Int) (i : Int) (n : Int) (ms.map (fun (x : Nat) => (x : Int))) = some ((List.range' i d).all (ordRow n ms)) := by
  intro d
  have h2 : 2 ^ n ≤ 2 ^ 10 := Nat.pow_le_pow_right (by omega) hn
  have lm : ((ms.map (fun (x : Nat) => (x : Int))).length : Int) = (n : Int) := by simp [hl]
  have lm2 : (ms.map (fun (x : Nat) => (x : Int))).length = n := by simp [hl]
  induction d with
  | zero =>
    intro k i hi hk
    obtain ⟨k, rfl⟩ : ∃ m, k = m + 1 := ⟨k - 1, by omega⟩
    simp only [impl_IsOrder.l0]
    rw [if_neg (by omega)]
    rfl
  | succ d ih =>
    intro k i hi hk
    obtain ⟨k, rfl⟩ : ∃ m, k = m + 1 := ⟨k - 1, by omega⟩
    simp only [impl_IsOrder.l0]
    have a1 := getD_lt (Nat.two_pow_pos n) hb i
    have r1 := rd_map ms i
    have hle := elemsTo_length (ms.getD i 0) n
    rw [if_pos (by omega), if_pos (by omega), if_pos (by omega), better_k (n : Int) _ i i _ (by omega) r1 (by omega) (by omega), r1, members_k _ n a1 hn k (by omega)]
    simp only [Option.bind_some]
    rw [List.range'_succ, List.all_cons]
    cases h1 : (ms.getD i 0).testBit i
    · rw [if_neg (by simp)]
      have inner : ∀ (e k q : Nat), q + e = (elemsTo (ms.getD i 0) n).length → d * 14 + 21 + e < k →
          impl_IsOrder.l1 k ((ms.getD i 0 : Nat) : Int) (ms.map (fun (x : Nat) => (x : Int))) (n : Int) (i : Int) ((elemsTo (ms.getD i 0) n).map (fun (x : Nat) => (x : Int))) ((elemsTo (ms.getD i 0) n).length : Int) (q : Int) (n : Int) (ms.map (fun (x : Nat) => (x : Int))) = some (((List.range' q e).all fun q => decide (andn (ms.getD ((elemsTo (ms.getD i 0) n).getD q 0) 0) (ms.getD i 0) = 0)) && (List.range' (i + 1) d).all (ordRow n ms)) := by
        intro e
        induction e with
        | zero =>
          intro k q hq hk
          obtain ⟨k, rfl⟩ : ∃ m, k = m + 1 := ⟨k - 1, by omega⟩
          simp only [impl_IsOrder.l1]
          rw [if_neg (by omega), wrap_ok (by omega) (by omega), show ((i : Int) + 1) = ((i + 1 : Nat) : Int) by omega, ih k (i + 1) (by omega) (by omega)]
          simp
        | succ e ihe =>
          intro k q hq hk
          obtain ⟨k, rfl⟩ : ∃ m, k = m + 1 := ⟨k - 1, by omega⟩
          simp only [impl_IsOrder.l1]
          have lL : (((elemsTo (ms.getD i 0) n).map (fun (x : Nat) => (x : Int))).length : Int) = ((elemsTo (ms.getD i 0) n).length : Int) := by simp
          have hj := elems_lt2 (ms.getD i 0) n q (by omega)
          have a2 := getD_lt (Nat.two_pow_pos n) hb ((elemsTo (ms.getD i 0) n).getD q 0)
          rw [if_pos (by omega), if_pos (by omega), if_pos (by omega), rd_map, if_pos (Int.natCast_nonneg _), lm, if_pos (Int.ofNat_lt.2 hj), rd_map, andNot_nat _ _ (by omega) (by omega), wrap_ok (by omega) (by omega), show ((q : Int) + 1) = ((q + 1 : Nat) : Int) by omega, ihe k (q + 1) (by omega) (by omega), List.range'_succ, List.all_cons]
          by_cases h : andn (ms.getD ((elemsTo (ms.getD i 0) n).getD q 0) 0) (ms.getD i 0) = 0
          · rw [if_pos (by rw [h]; rfl), decide_eq_true h, Bool.true_and]
          · rw [if_neg (by intro e; exact h (Int.ofNat_eq_zero.1 e)), decide_eq_false h, Bool.false_and, Bool.false_and]
      have := inner (elemsTo (ms.getD i 0) n).length k 0 (by omega) (by omega)
      have lL : (((elemsTo (ms.getD i 0) n).map (fun (x : Nat) => (x : Int))).length : Int) = ((elemsTo (ms.getD i 0) n).length : Int) := by simp
      rw [lL]
      have er : ordRow n ms i = (List.range' 0 (elemsTo (ms.getD i 0) n).length).all fun q => decide (andn (ms.getD ((elemsTo (ms.getD i 0) n).getD q 0) 0) (ms.getD i 0) = 0) := by
        unfold ordRow
        rw [h1]
        rfl
      rw [er]
      exact this
    · rw [if_pos rfl]
      have er : ordRow n ms i = false := by
        unfold ordRow
        rw [h1]
        rfl
      rw [er]
      rfl
theorem spec_orGood_l0 (n : Nat) (hn : n ≤ 10) (ms : List Nat) (hl : ms.length = n) (hb : ∀ x ∈ ms, x < 2 ^ n) : ∀ (d k i : Nat), i + d = n → d * 14 + 20 < k →
    spec_orGood.l0 k (ms.map (fun (x : Nat) => (x : Int))) (n : Int) (i : Int) (n : Int) (ms.map (fun (x : Nat) => (x : Int))) = some ((List.range' i d).all (ordRow n ms)) := by
  intro d
  have h2 : 2 ^ n ≤ 2 ^ 10 := Nat.pow_le_pow_right (by omega) hn
  have lm : ((ms.map (fun (x : Nat) => (x : Int))).length : Int) = (n : Int) := by simp [hl]
  have lm2 : (ms.map (fun (x : Nat) => (x : Int))).length = n := by simp [hl]
  induction d with
  | zero =>
    intro k i hi hk
    obtain ⟨k, rfl⟩ : ∃ m, k = m + 1 := ⟨k - 1, by omega⟩
    simp only [spec_orGood.l0]
    rw [if_neg (by omega)]
    rfl
  | succ d ih =>
    intro k i hi hk
    obtain ⟨k, rfl⟩ : ∃ m, k = m + 1 := ⟨k - 1, by omega⟩
    simp only [spec_orGood.l0]
    have a1 := getD_lt (Nat.two_pow_pos n) hb i
    have r1 := rd_map ms i
    have hle := elemsTo_length (ms.getD i 0) n
    rw [if_pos (by omega), if_pos (by omega), if_pos (by omega), r1, orHas_k _ i (by omega), orList_k _ n a1 (by omega) k (by omega)]
    simp only [Option.bind_some]
    rw [List.range'_succ, List.all_cons]
    cases h1 : (ms.getD i 0).testBit i
    · rw [if_neg (by simp)]
      have inner : ∀ (e k q : Nat), q + e = (elemsTo (ms.getD i 0) n).length → d * 14 + 21 + e < k →
          spec_orGood.l1 k ((ms.getD i 0 : Nat) : Int) (ms.map (fun (x : Nat) => (x : Int))) (n : Int) (i : Int) ((elemsTo (ms.getD i 0) n).map (fun (x : Nat) => (x : Int))) ((elemsTo (ms.getD i 0) n).length : Int) (q : Int) (n : Int) (ms.map (fun (x : Nat) => (x : Int))) = some (((List.range' q e).all fun q => decide (andn (ms.getD ((elemsTo (ms.getD i 0) n).getD q 0) 0) (ms.getD i 0) = 0)) && (List.range' (i + 1) d).all (ordRow n ms)) := by
        intro e
        induction e with
        | zero =>
          intro k q hq hk
          obtain ⟨k, rfl⟩ : ∃ m, k = m + 1 := ⟨k - 1, by omega⟩
          simp only [spec_orGood.l1]
          rw [if_neg (by omega), wrap_ok (by omega) (by omega), show ((i : Int) + 1) = ((i + 1 : Nat) : Int) by omega, ih k (i + 1) (by omega) (by omega)]
          simp
        | succ e ihe =>
          intro k q hq hk
          obtain ⟨k, rfl⟩ : ∃ m, k = m + 1 := ⟨k - 1, by omega⟩
          simp only [spec_orGood.l1]
          have lL : (((elemsTo (ms.getD i 0) n).map (fun (x : Nat) => (x : Int))).length : Int) = ((elemsTo (ms.getD i 0) n).length : Int) := by simp
          have hj := elems_lt2 (ms.getD i 0) n q (by omega)
          have a2 := getD_lt (Nat.two_pow_pos n) hb ((elemsTo (ms.getD i 0) n).getD q 0)
          rw [if_pos (by omega), if_pos (by omega), if_pos (by omega), rd_map, if_pos (Int.natCast_nonneg _), lm, if_pos (Int.ofNat_lt.2 hj), rd_map, andNot_nat _ _ (by omega) (by omega), wrap_ok (by omega) (by omega), show ((q : Int) + 1) = ((q + 1 : Nat) : Int) by omega, ihe k (q + 1) (by omega) (by omega), List.range'_succ, List.all_cons]
          by_cases h : andn (ms.getD ((elemsTo (ms.getD i 0) n).getD q 0) 0) (ms.getD i 0) = 0
          · rw [if_pos (by rw [h]; rfl), decide_eq_true h, Bool.true_and]
          · rw [if_neg (by intro e; exact h (Int.ofNat_eq_zero.1 e)), decide_eq_false h, Bool.false_and, Bool.false_and]
      have := inner (elemsTo (ms.getD i 0) n).length k 0 (by omega) (by omega)
      have lL : (((elemsTo (ms.getD i 0) n).map (fun (x : Nat) => (x : Int))).length : Int) = ((elemsTo (ms.getD i 0) n).length : Int) := by simp
      rw [lL]
      have er : ordRow n ms i = (List.range' 0 (elemsTo (ms.getD i 0) n).length).all fun q => decide (andn (ms.getD ((elemsTo (ms.getD i 0) n).getD q 0) 0) (ms.getD i 0) = 0) := by
        unfold ordRow
        rw [h1]
        rfl
      rw [er]
      exact this
    · rw [if_pos rfl]
      have er : ordRow n ms i = false := by
        unfold ordRow
        rw [h1]
        rfl
      rw [er]
      rfl
/-- What both tell of an order. -/
theorem order_both (n : Int) (l : List Int) (hl : l.length ≤ 1048576) : ∃ b, (∀ k, l.length + 300 < k → impl_IsOrder.f k n l = some b ∧ spec_orGood.f k n l = some b) ∧
    (b = true → ∃ (m : Nat) (ms : List Nat), n = (m : Int) ∧ l = ms.map (fun (x : Nat) => (x : Int)) ∧ m ≤ 10 ∧ ms.length = m ∧ (∀ x ∈ ms, x < 2 ^ m) ∧ (List.range' 0 m).all (ordRow m ms) = true) := by
  cases hT : isRel n l
  · refine ⟨false, fun k hk => ⟨?_, ?_⟩, by simp⟩
    · unfold impl_IsOrder.f
      rw [IsRelation_k n l (by omega) k (by omega), hT]
      rfl
    · unfold spec_orGood.f
      rw [orRelation_k n l (by omega) k (by omega), hT]
      rfl
  · obtain ⟨m, ms, rfl, rfl, h1, h2, h3⟩ := (isRel_iff n l).1 hT
    have lm : ((ms.map (fun (x : Nat) => (x : Int))).length : Int) = (m : Int) := by simp [h2]
    refine ⟨(List.range' 0 m).all (ordRow m ms), fun k hk => ⟨?_, ?_⟩, fun hb => ⟨m, ms, rfl, rfl, h1, h2, h3, hb⟩⟩
    · unfold impl_IsOrder.f
      rw [IsRelation_k _ _ (by omega) k (by omega), hT, lm]
      exact impl_IsOrder_l0 m h1 ms h2 h3 m k 0 (by omega) (by omega)
    · unfold spec_orGood.f
      rw [orRelation_k _ _ (by omega) k (by omega), hT, lm]
      exact spec_orGood_l0 m h1 ms h2 h3 m k 0 (by omega) (by omega)

theorem table_l0 (R C : Nat) (hR : R ≤ 60) (hC : C ≤ 60) (is : Int → Int → Option Bool) (p : Nat → Nat → Bool) (h : ∀ i j : Nat, i < R → j < C → is i j = some (p i j)) :
    ∀ (d k i : Nat), i + d = R → d * (C + 3) < k → impl_table.l0 k (C : Int) is (R : Int) (i : Int) (R : Int) (C : Int) (part R C p i 0) = some ((R : Int), (C : Int), relList R C p) := by
  intro d
  induction d with
  | zero =>
    intro k i hi hk
    obtain ⟨k, rfl⟩ : ∃ m, k = m + 1 := ⟨k - 1, by omega⟩
    simp only [impl_table.l0]
    have e : i = R := by omega
    subst e
    rw [if_neg (by omega), part_end]
  | succ d ih =>
    intro k i hi hk
    rw [Nat.succ_mul] at hk
    obtain ⟨k, rfl⟩ : ∃ m, k = m + 1 := ⟨k - 1, by omega⟩
    simp only [impl_table.l0]
    rw [if_pos (by omega)]
    have inner : ∀ (e k j : Nat), j + e = C → d * (C + 3) + 1 + e < k → impl_table.l1 k (C : Int) is (i : Int) (R : Int) (i : Int) (C : Int) (j : Int) (R : Int) (C : Int) (part R C p i j) = some ((R : Int), (C : Int), relList R C p) := by
      intro e
      induction e with
      | zero =>
        intro k j hj hk
        obtain ⟨k, rfl⟩ : ∃ m, k = m + 1 := ⟨k - 1, by omega⟩
        simp only [impl_table.l1]
        have e1 : ((i : Int) + 1) = ((i + 1 : Nat) : Int) := by omega
        have e2 : j = C := by omega
        subst e2
        rw [if_neg (by omega), wrap_ok (by omega) (by omega), e1, part_next]
        exact ih k (i + 1) (by omega) (by omega)
      | succ e ihe =>
        intro k j hj hk
        obtain ⟨k, rfl⟩ : ∃ m, k = m + 1 := ⟨k - 1, by omega⟩
        simp only [impl_table.l1]
        have e1 : ((j : Int) + 1) = ((j + 1 : Nat) : Int) := by omega
        have e3 : (i : Int).toNat = i := by omega
        rw [if_pos (by omega), h i j (by omega) (by omega), wrap_ok (by omega) (by omega), e1, e3]
        simp only [Option.bind_some]
        cases hp : p i j
        · rw [if_neg (by simp), part_skip R C p i j hp]
          exact ihe k (j + 1) (by omega) (by omega)
        · rw [if_pos rfl, if_pos (by omega), if_pos (by rw [part_length]; omega), if_pos (by omega), part_rd R C p i j (by omega), or_shl _ j (Nat.lt_of_lt_of_le (bitsum_lt (p i) j) (Nat.pow_le_pow_right (by omega) (by omega))) (by omega), part_set R C p i j (by omega) hp]
          exact ihe k (j + 1) (by omega) (by omega)
    exact inner C k 0 (by omega) (by omega)
/-- The table of what is told of each cell. -/
theorem table_k (R C : Nat) (hR : R ≤ 60) (hC : C ≤ 60) (is : Int → Int → Option Bool) (p : Nat → Nat → Bool) (h : ∀ i j : Nat, i < R → j < C → is i j = some (p i j)) (k : Nat) (hk : R * (C + 3) < k) :
    impl_table.f k (R : Int) (C : Int) is = some ((R : Int), (C : Int), relList R C p) := by
  unfold impl_table.f
  rw [if_pos (by omega), if_pos (by omega)]
  have e : ((R : Int)).toNat = R := by omega
  rw [e, part_start R C p]
  exact table_l0 R C hR hC is p h R k 0 (by omega) hk

/-- What a table is: its rows, its columns, and each row's marks as a number. -/
theorem isTab_iff (R C : Int) (M : List Int) : isTab R C M = true ↔ ∃ (r c : Nat) (ms : List Nat), R = (r : Int) ∧ C = (c : Int) ∧ M = ms.map (fun (x : Nat) => (x : Int)) ∧ 1 ≤ r ∧ r ≤ 6 ∧ 1 ≤ c ∧ c ≤ 6 ∧ ms.length = r ∧ ∀ x ∈ ms, x < 2 ^ c := by
  unfold isTab
  simp only [Bool.and_eq_true, decide_eq_true_eq, allIn_iff]
  constructor
  · rintro ⟨⟨⟨h1, h2⟩, h3⟩, h4⟩
    have ec : C = ((C.toNat : Nat) : Int) := by omega
    have e5 : wrap64 (shl .i64 1 C - 1) = ((2 ^ C.toNat - 1 : Nat) : Int) := by
      rw [ec, shl_one C.toNat (by omega)]
      have hp : 0 < 2 ^ C.toNat := Nat.two_pow_pos _
      have hq : 2 ^ C.toNat ≤ 2 ^ 6 := Nat.pow_le_pow_right (by omega) (by omega)
      have e6 : (((C.toNat : Nat) : Int)).toNat = C.toNat := by omega
      rw [e6, wrap_ok (by omega) (by omega)]
      omega
    rw [e5] at h4
    refine ⟨R.toNat, C.toNat, M.map Int.toNat, by omega, ec, ?_, by omega, by omega, by omega, by omega, by simp; omega, ?_⟩
    · rw [List.map_map]
      conv => lhs; rw [← List.map_id M]
      apply List.map_congr_left
      intro x hx
      have := h4 x hx
      show x = ((x.toNat : Nat) : Int)
      omega
    · intro x hx
      obtain ⟨y, hy, rfl⟩ := List.mem_map.1 hx
      have := h4 y hy
      have hp : 0 < 2 ^ C.toNat := Nat.two_pow_pos _
      omega
  · rintro ⟨r, c, ms, rfl, rfl, rfl, h1, h2, h3, h4, h5, h6⟩
    have hp : 0 < 2 ^ c := Nat.two_pow_pos _
    have hq : 2 ^ c ≤ 2 ^ 6 := Nat.pow_le_pow_right (by omega) (by omega)
    have e5 : wrap64 (shl .i64 1 (c : Int) - 1) = ((2 ^ c - 1 : Nat) : Int) := by
      rw [shl_one c (by omega), wrap_ok (by omega) (by omega)]
      omega
    refine ⟨⟨⟨by omega, by omega⟩, by simp; omega⟩, ?_⟩
    intro x hx
    obtain ⟨y, hy, rfl⟩ := List.mem_map.1 hx
    have := h6 y hy
    rw [e5]
    omega
/-- Is a row marked in a column? -/
def mk (ms : List Nat) (r c : Nat) : Bool := (ms.getD r 0).testBit c
theorem marked_k (R C : Int) (ms : List Nat) (r c : Nat) (hb : ∀ x ∈ ms, x < 64) (hr : r < ms.length) (hc : c < 60) : impl_Table_marked.f R C (ms.map (fun (x : Nat) => (x : Int))) (r : Int) (c : Int) = some (mk ms r c) := by
  unfold impl_Table_marked.f mk
  have := getD_lt (b := 64) (by omega) hb r
  rw [if_pos (by omega), if_pos (by simpa using hr), if_pos (by omega), rd_map, bit_and _ c (by omega) (by omega)]

/-! A loop that looks for the first index for which something is told: what it tells with enough rounds. -/
/-- One round of such a loop: what is told ends it; else it goes on. -/
def Step {α : Type} (F : Nat → Nat → Option α) (G : Nat → Option α) (c i : Nat) : Prop :=
  (∀ v, G i = some v → ∀ k, c ≤ k → F (k + 1) i = some v) ∧ (G i = none → ∀ K r, (∀ k, K ≤ k → F k (i + 1) = some r) → ∀ k, K + c ≤ k → F (k + 1) i = some r)
theorem search {α : Type} (F : Nat → Nat → Option α) (n c : Nat) (G : Nat → Option α) (h : ∀ i, i < n → Step F G c i) :
    ∀ e i, i + e = n → (∀ v, (List.range' i e).findSome? G = some v → ∀ k, e * (c + 1) ≤ k → F k i = some v) ∧
      ((List.range' i e).findSome? G = none → ∀ K r, (∀ k, K ≤ k → F k n = some r) → ∀ k, K + e * (c + 1) ≤ k → F k i = some r) := by
  intro e
  induction e with
  | zero =>
    intro i hi
    have e0 : i = n := by omega
    subst e0
    exact ⟨fun v h => by simp at h, fun _ K r h k hk => h k (by omega)⟩
  | succ e ih =>
    intro i hi
    obtain ⟨ihA, ihB⟩ := ih (i + 1) (by omega)
    obtain ⟨hb, hs⟩ := h i (by omega)
    rw [List.range'_succ, List.findSome?_cons]
    refine ⟨fun v h k hk => ?_, fun h K r hr k hk => ?_⟩
    · rw [Nat.succ_mul] at hk
      obtain ⟨k, rfl⟩ : ∃ m, k = m + 1 := ⟨k - 1, by omega⟩
      cases hG : G i with
      | some w =>
        rw [hG] at h
        exact hb v (by rw [hG]; exact h) k (by omega)
      | none =>
        rw [hG] at h
        exact hs hG (e * (c + 1)) v (fun k hk => ihA v h k hk) k (by omega)
    · rw [Nat.succ_mul] at hk
      obtain ⟨k, rfl⟩ : ∃ m, k = m + 1 := ⟨k - 1, by omega⟩
      cases hG : G i with
      | some w =>
        rw [hG] at h
        cases h
      | none =>
        rw [hG] at h
        exact hs hG (K + e * (c + 1)) r (fun k hk => ihB h K r hr k hk) k (by omega)
/-- A loop within a loop: the outer one's round is the inner one from its start; at its end it goes on. -/
theorem search2 {α : Type} {F I : Nat → Nat → Option α} {m c : Nat} {G : Nat → Option α} {GO : Nat → Option α} {i : Nat} (b : Nat)
    (h : ∀ j, j < m → Step I G c j) (hG : GO i = (List.range' 0 m).findSome? G) (hin : ∀ k, b ≤ k → F (k + 1) i = I k 0) (hout : ∀ k, I (k + 1) m = F k (i + 1)) : Step F GO (b + m * (c + 1) + 1) i := by
  obtain ⟨hA, hB⟩ := search I m c G h m 0 (by omega)
  unfold Step
  rw [hG]
  refine ⟨fun v h k hk => ?_, fun h K r hr k hk => ?_⟩
  · rw [hin k (by omega)]
    exact hA v h k (by omega)
  · rw [hin k (by omega)]
    refine hB h (K + 1) r (fun k hk => ?_) k (by omega)
    obtain ⟨k, rfl⟩ : ∃ q, k = q + 1 := ⟨k - 1, by omega⟩
    rw [hout]
    exact hr k (by omega)
/-- A whole search: the first that is told, or what stands at the end. -/
theorem search0 {α : Type} {F : Nat → Nat → Option α} {n c : Nat} {G : Nat → Option α} (h : ∀ i, i < n → Step F G c i) (z : α) (hz : ∀ k, F (k + 1) n = some z) (k : Nat) (hk : n * (c + 1) + 1 ≤ k) :
    F k 0 = some (((List.range' 0 n).findSome? G).getD z) := by
  obtain ⟨hA, hB⟩ := search F n c G h n 0 (by omega)
  cases h0 : (List.range' 0 n).findSome? G with
  | some v => exact hA v h0 k (by omega)
  | none =>
    refine hB h0 1 z (fun k hk => ?_) k (by omega)
    obtain ⟨k, rfl⟩ : ∃ q, k = q + 1 := ⟨k - 1, by omega⟩
    exact hz k
theorem nat_succ (i : Nat) : ((i : Int) + 1) = ((i + 1 : Nat) : Int) := by omega
theorem fs_none {α : Type} (n : Nat) (G : Nat → Option α) : (List.range' 0 n).findSome? G = none ↔ ∀ i, i < n → G i = none := by
  rw [List.findSome?_eq_none_iff]
  constructor
  · intro h i hi
    exact h i (by rw [List.mem_range']; exact ⟨i, hi, by omega⟩)
  · intro h x hx
    rw [List.mem_range'] at hx
    obtain ⟨i, hi, e⟩ := hx
    exact h x (by omega)
theorem fs_some {α : Type} (n : Nat) (G : Nat → Option α) (v : α) (h : (List.range' 0 n).findSome? G = some v) : ∃ i, i < n ∧ G i = some v := by
  obtain ⟨x, hx, hv⟩ := List.exists_of_findSome?_eq_some h
  rw [List.mem_range'] at hx
  obtain ⟨i, hi, e⟩ := hx
  exact ⟨x, by omega, hv⟩

/-- Four cells that refuse a table. -/
def four (ms : List Nat) (r c s d : Nat) : Bool := mk ms r c && !mk ms r d && mk ms s d && !mk ms s c
def four4 (ms : List Nat) (r c s d : Nat) : Option (List Int) := if four ms r c s d = true then some [(r : Int), (c : Int), (s : Int), (d : Int)] else none
def four3 (C : Nat) (ms : List Nat) (r c s : Nat) : Option (List Int) := (List.range' 0 C).findSome? (four4 ms r c s)
def four2 (R C : Nat) (ms : List Nat) (r c : Nat) : Option (List Int) := (List.range' 0 R).findSome? (four3 C ms r c)
def four1 (R C : Nat) (ms : List Nat) (r : Nat) : Option (List Int) := (List.range' 0 C).findSome? (four2 R C ms r)
def four0 (R C : Nat) (ms : List Nat) : Option (List Int) := (List.range' 0 R).findSome? (four1 R C ms)
abbrev asInts (ms : List Nat) : List Int := ms.map (fun (x : Nat) => (x : Int))
theorem four_l3 (R C : Nat) (ms : List Nat) (hR : ms.length = R) (hC : C ≤ 6) (hb : ∀ x ∈ ms, x < 64) (r c s : Nat) (hr : r < R) (hc : c < C) (hs : s < R) (d : Nat) (hd : d < C) :
    Step (fun k d => impl_Table_fourCells.l3 k (r : Int) (c : Int) (s : Int) (R : Int) (r : Int) (C : Int) (c : Int) (R : Int) (s : Int) (C : Int) (d : Int) (R : Int) (C : Int) (asInts ms)) (four4 ms r c s) 0 d := by
  refine ⟨fun v hv k _ => ?_, fun hv K v hK k hk => ?_⟩
  all_goals
    have q1 := marked_k (R : Int) (C : Int) ms r c hb (by omega) (by omega)
    have q2 := marked_k (R : Int) (C : Int) ms r d hb (by omega) (by omega)
    have q3 := marked_k (R : Int) (C : Int) ms s d hb (by omega) (by omega)
    have q4 := marked_k (R : Int) (C : Int) ms s c hb (by omega) (by omega)
    simp only [impl_Table_fourCells.l3]
    rw [if_pos (by omega), q1, q2, q3, q4, wrap_ok (by omega) (by omega), nat_succ]
    unfold four4 four at hv
    simp only [Option.bind_some]
  · cases h1 : mk ms r c <;> cases h2 : mk ms r d <;> cases h3 : mk ms s d <;> cases h4 : mk ms s c <;> simp [h1, h2, h3, h4] at hv ⊢
    exact hv
  · have hn := hK k (by omega)
    cases h1 : mk ms r c <;> cases h2 : mk ms r d <;> cases h3 : mk ms s d <;> cases h4 : mk ms s c <;> simp [h1, h2, h3, h4] at hv ⊢ <;> exact hn
theorem four_l2 (R C : Nat) (ms : List Nat) (hR : ms.length = R) (hR6 : R ≤ 6) (hC : C ≤ 6) (hb : ∀ x ∈ ms, x < 64) (r c : Nat) (hr : r < R) (hc : c < C) (s : Nat) (hs : s < R) :
    Step (fun k s => impl_Table_fourCells.l2 k (r : Int) (c : Int) (R : Int) (r : Int) (C : Int) (c : Int) (R : Int) (s : Int) (R : Int) (C : Int) (asInts ms)) (four3 C ms r c) (0 + C * (0 + 1) + 1) s :=
  search2 0 (four_l3 R C ms hR hC hb r c s hr hc hs) rfl
    (fun k _ => by simp only [impl_Table_fourCells.l2]; rw [if_pos (by omega)]; rfl)
    (fun k => by simp only [impl_Table_fourCells.l3]; rw [if_neg (by omega), wrap_ok (by omega) (by omega), nat_succ])
theorem four_l1 (R C : Nat) (ms : List Nat) (hR : ms.length = R) (hR6 : R ≤ 6) (hC : C ≤ 6) (hb : ∀ x ∈ ms, x < 64) (r : Nat) (hr : r < R) (c : Nat) (hc : c < C) :
    Step (fun k c => impl_Table_fourCells.l1 k (r : Int) (R : Int) (r : Int) (C : Int) (c : Int) (R : Int) (C : Int) (asInts ms)) (four2 R C ms r) (0 + R * (0 + C * (0 + 1) + 1 + 1) + 1) c :=
  search2 0 (four_l2 R C ms hR hR6 hC hb r c hr hc) rfl
    (fun k _ => by simp only [impl_Table_fourCells.l1]; rw [if_pos (by omega)]; rfl)
    (fun k => by simp only [impl_Table_fourCells.l2]; rw [if_neg (by omega), wrap_ok (by omega) (by omega), nat_succ])
theorem four_l0 (R C : Nat) (ms : List Nat) (hR : ms.length = R) (hR6 : R ≤ 6) (hC : C ≤ 6) (hb : ∀ x ∈ ms, x < 64) (r : Nat) (hr : r < R) :
    Step (fun k r => impl_Table_fourCells.l0 k (R : Int) (r : Int) (R : Int) (C : Int) (asInts ms)) (four1 R C ms) (0 + C * (0 + R * (0 + C * (0 + 1) + 1 + 1) + 1 + 1) + 1) r :=
  search2 0 (four_l1 R C ms hR hR6 hC hb r hr) rfl
    (fun k _ => by simp only [impl_Table_fourCells.l0]; rw [if_pos (by omega)]; rfl)
    (fun k => by simp only [impl_Table_fourCells.l1]; rw [if_neg (by omega), wrap_ok (by omega) (by omega), nat_succ])
theorem four_bound (R C : Nat) (hR6 : R ≤ 6) (hC : C ≤ 6) : R * (0 + C * (0 + R * (0 + C * (0 + 1) + 1 + 1) + 1 + 1) + 1 + 1) + 1 ≤ 4000 := by
  have h1 : C * (0 + 1) ≤ 6 * (0 + 1) := Nat.mul_le_mul hC (Nat.le_refl _)
  have h2 : R * (0 + C * (0 + 1) + 1 + 1) ≤ 6 * (0 + 6 * (0 + 1) + 1 + 1) := Nat.mul_le_mul hR6 (by omega)
  have h3 : C * (0 + R * (0 + C * (0 + 1) + 1 + 1) + 1 + 1) ≤ 6 * (0 + 6 * (0 + 6 * (0 + 1) + 1 + 1) + 1 + 1) := Nat.mul_le_mul hC (by omega)
  have h4 : R * (0 + C * (0 + R * (0 + C * (0 + 1) + 1 + 1) + 1 + 1) + 1 + 1) ≤ 6 * (0 + 6 * (0 + 6 * (0 + 6 * (0 + 1) + 1 + 1) + 1 + 1) + 1 + 1) := Nat.mul_le_mul hR6 (by omega)
  omega
/-- The first four cells that refuse a table, or nothing. -/
theorem fourCells_k (R C : Nat) (ms : List Nat) (hR : ms.length = R) (hR6 : R ≤ 6) (hC : C ≤ 6) (hb : ∀ x ∈ ms, x < 64) (k : Nat) (hk : 4000 ≤ k) : impl_Table_fourCells.f k (R : Int) (C : Int) (asInts ms) = some ((four0 R C ms).getD []) := by
  unfold impl_Table_fourCells.f
  have hn := four_bound R C hR6 hC
  exact search0 (four_l0 R C ms hR hR6 hC hb) [] (fun k => by simp only [impl_Table_fourCells.l0]; rw [if_neg (by omega)]) k (by omega)
theorem four0_ne (R C : Nat) (ms : List Nat) (v : List Int) (h : four0 R C ms = some v) : v ≠ [] := by
  unfold four0 at h
  obtain ⟨i, _, h1⟩ := fs_some _ _ _ h
  unfold four1 at h1
  obtain ⟨j, _, h2⟩ := fs_some _ _ _ h1
  unfold four2 at h2
  obtain ⟨i, _, h3⟩ := fs_some _ _ _ h2
  unfold four3 at h3
  obtain ⟨i, _, h4⟩ := fs_some _ _ _ h3
  unfold four4 at h4
  split at h4
  · injection h4 with h4
    rw [← h4]
    simp
  · cases h4
theorem four_len (R C : Nat) (ms : List Nat) : ((four0 R C ms).getD []).length ≤ 4 := by
  cases h : four0 R C ms with
  | none => simp
  | some v =>
    unfold four0 at h
    obtain ⟨i, _, h1⟩ := fs_some _ _ _ h
    unfold four1 at h1
    obtain ⟨j, _, h2⟩ := fs_some _ _ _ h1
    unfold four2 at h2
    obtain ⟨i, _, h3⟩ := fs_some _ _ _ h2
    unfold four3 at h3
    obtain ⟨i, _, h4⟩ := fs_some _ _ _ h3
    unfold four4 at h4
    split at h4
    · injection h4 with h4
      rw [← h4]
      simp
    · cases h4

/-- Do two rows refuse a table? -/
def bio2 (ms : List Nat) (i j : Nat) : Option Bool := if andn (ms.getD i 0) (ms.getD j 0) ≠ 0 ∧ andn (ms.getD j 0) (ms.getD i 0) ≠ 0 then some false else none
def bio1 (ms : List Nat) (i : Nat) : Option Bool := (List.range' 0 ms.length).findSome? (bio2 ms i)
def bio0 (ms : List Nat) : Option Bool := (List.range' 0 ms.length).findSome? (bio1 ms)
theorem andn_ne (a b : Nat) : andn a b ≠ 0 ↔ ∃ i, a.testBit i = true ∧ b.testBit i = false := by
  constructor
  · intro h
    apply Classical.byContradiction
    intro hn
    apply h
    rw [andn_zero]
    intro i hi
    cases hb : b.testBit i
    · exact absurd ⟨i, hi, hb⟩ hn
    · rfl
  · rintro ⟨i, h1, h2⟩ h
    have := (andn_zero a b).1 h i h1
    rw [h2] at this
    cases this
theorem bit_lt {x c i : Nat} (hx : x < 2 ^ c) (h : x.testBit i = true) : i < c := by
  apply Classical.byContradiction
  intro hn
  have : x.testBit i = false := Nat.testBit_lt_two_pow (Nat.lt_of_lt_of_le hx (Nat.pow_le_pow_right (by omega) (by omega)))
  rw [h] at this
  cases this
/-- No four cells refuse a table exactly if no two rows do. -/
theorem four_bio (R C : Nat) (ms : List Nat) (hR : ms.length = R) (hb : ∀ x ∈ ms, x < 2 ^ C) : four0 R C ms = none ↔ bio0 ms = none := by
  subst hR
  unfold four0 bio0
  rw [fs_none, fs_none]
  constructor
  · intro h i hi
    unfold bio1
    rw [fs_none]
    intro j hj
    unfold bio2
    rw [if_neg]
    rintro ⟨h1, h2⟩
    obtain ⟨c, hc1, hc2⟩ := (andn_ne _ _).1 h1
    obtain ⟨d, hd1, hd2⟩ := (andn_ne _ _).1 h2
    have hcC := bit_lt (getD_lt (Nat.two_pow_pos _) hb i) hc1
    have hdC := bit_lt (getD_lt (Nat.two_pow_pos _) hb j) hd1
    have g1 := h i hi
    unfold four1 at g1
    rw [fs_none] at g1
    have g2 := g1 c hcC
    unfold four2 at g2
    rw [fs_none] at g2
    have g3 := g2 j hj
    unfold four3 at g3
    rw [fs_none] at g3
    have g4 := g3 d hdC
    unfold four4 four mk at g4
    rw [hc1, hc2, hd1, hd2] at g4
    simp at g4
  · intro h r hr
    unfold four1
    rw [fs_none]
    intro c hc
    unfold four2
    rw [fs_none]
    intro s hs
    unfold four3
    rw [fs_none]
    intro d hd
    unfold four4
    rw [if_neg]
    intro hf
    unfold four mk at hf
    simp only [Bool.and_eq_true, Bool.not_eq_true'] at hf
    obtain ⟨⟨⟨f1, f2⟩, f3⟩, f4⟩ := hf
    have g1 := h r hr
    unfold bio1 at g1
    rw [fs_none] at g1
    have g2 := g1 s hs
    unfold bio2 at g2
    rw [if_pos ⟨(andn_ne _ _).2 ⟨c, f1, f4⟩, (andn_ne _ _).2 ⟨d, f3, f2⟩⟩] at g2
    cases g2
theorem bio0_false (ms : List Nat) (v : Bool) (h : bio0 ms = some v) : v = false := by
  unfold bio0 at h
  obtain ⟨i, _, h1⟩ := fs_some _ _ _ h
  unfold bio1 at h1
  obtain ⟨j, _, h2⟩ := fs_some _ _ _ h1
  unfold bio2 at h2
  split at h2
  · injection h2 with h2
    exact h2.symm
  · cases h2

theorem and255 (x : Int) : 0 ≤ Go.bits .and .u64 x 255 ∧ Go.bits .and .u64 x 255 < 256 := by
  unfold Go.bits
  show 0 ≤ IntKind.u64.wrap (((BitVec.ofInt 64 x &&& BitVec.ofInt 64 255).toNat : Nat) : Int) ∧ IntKind.u64.wrap (((BitVec.ofInt 64 x &&& BitVec.ofInt 64 255).toNat : Nat) : Int) < 256
  have h : (BitVec.ofInt 64 x &&& BitVec.ofInt 64 255).toNat ≤ 255 := by
    rw [BitVec.toNat_and]
    exact Nat.and_le_right
  rw [IntKind.wrap_u64]
  omega
theorem rd_byte (s : List Int) (hb : ∀ x ∈ s, 0 ≤ x ∧ x < 256) (p : Int) (h0 : 0 ≤ p) (h1 : p < s.length) : 0 ≤ rd s p ∧ rd s p < 256 := by
  obtain ⟨n, rfl⟩ := Int.eq_ofNat_of_zero_le h0
  have hn : n < s.length := by omega
  have e : rd s ((n : Nat) : Int) = s[n] := by
    rw [rd_nat, List.getD_eq_getElem?_getD, List.getElem?_eq_getElem hn]
    rfl
  show 0 ≤ rd s ((n : Nat) : Int) ∧ rd s ((n : Nat) : Int) < 256
  rw [e]
  exact hb _ (List.getElem_mem hn)
theorem next_ok (s : List Int) (hs : s.length ≤ 1048576) (hb : ∀ x ∈ s, 0 ≤ x ∧ x < 256) (p h : Int) (h0 : 0 ≤ p) (h1 : p ≤ 1000000000) : ∃ v h', spec_l1Cur_next.f s p h = some (v, p + 1, h') ∧ 0 ≤ v ∧ v < 256 := by
  have w : wrap64 (p + 1) = p + 1 := wrap_ok (by omega) (by omega)
  unfold spec_l1Cur_next.f
  rw [w]
  by_cases hp : p < (s.length : Int)
  · have hv := rd_byte s hb p h0 hp
    rw [if_pos hp, if_pos h0, if_pos (by omega), wrap_ok (x := rd s p) (by omega) (by omega)]
    exact ⟨_, _, rfl, hv.1, hv.2⟩
  · rw [if_neg hp, if_neg (by omega)]
    refine ⟨_, _, rfl, ?_⟩
    have := and255 ((IntKind.u64.wrap ((IntKind.u64.wrap ((IntKind.u64.wrap (h * 6364136223846793005)) + 0)) + 1442695040888963407)) / 1099511627776)
    rw [wrap_ok (by omega) (by omega)]
    exact this
theorem pick_ok (s : List Int) (hs : s.length ≤ 1048576) (hb : ∀ x ∈ s, 0 ≤ x ∧ x < 256) (p h a : Int) (h0 : 0 ≤ p) (h1 : p ≤ 900000000) : ∃ v p' h', spec_l1Cur_pick.f s p h a = some (v, p', h') ∧ 0 ≤ v ∧ (1 < a → v < a) ∧ (a ≤ 1 → v = 0) ∧ p ≤ p' ∧ p' ≤ p + 2 := by
  unfold spec_l1Cur_pick.f
  by_cases ha : a ≤ 1
  · rw [if_pos ha]
    exact ⟨0, p, h, rfl, by omega, by omega, fun _ => rfl, by omega, by omega⟩
  · rw [if_neg ha]
    obtain ⟨v, h', e, hv0, hv1⟩ := next_ok s hs hb p h h0 (by omega)
    rw [e]
    simp only [Option.bind_some]
    by_cases h2 : a > 200
    · rw [if_pos h2]
      obtain ⟨v2, h3, e2, hw0, hw1⟩ := next_ok s hs hb (p + 1) h' (by omega) (by omega)
      rw [e2]
      simp only [Option.bind_some]
      rw [if_neg (by omega), wrap_ok (x := v * 256) (by omega) (by omega), wrap_ok (by omega) (by omega)]
      exact ⟨_, _, _, rfl, Int.tmod_nonneg _ (by omega), fun _ => Int.tmod_lt_of_pos _ (by omega), fun h => absurd h ha, by omega, by omega⟩
    · rw [if_neg h2, if_neg (by omega)]
      exact ⟨_, _, _, rfl, Int.tmod_nonneg _ (by omega), fun _ => Int.tmod_lt_of_pos _ (by omega), fun h => absurd h ha, by omega, by omega⟩
theorem one_ok (s : List Int) (hs : s.length ≤ 1048576) (hb : ∀ x ∈ s, 0 ≤ x ∧ x < 256) (p h a : Int) (h0 : 0 ≤ p) (h1 : p ≤ 900000000) : ∃ v p' h', spec_l1Cur_one.f s p h a = some (v, p', h') ∧ p ≤ p' ∧ p' ≤ p + 2 := by
  unfold spec_l1Cur_one.f
  obtain ⟨v, p', h', e, _, _, _, e3, e4⟩ := pick_ok s hs hb p h a h0 h1
  rw [e]
  exact ⟨_, _, _, rfl, e3, e4⟩
theorem among_ok (s : List Int) (hs : s.length ≤ 1048576) (hb : ∀ x ∈ s, 0 ≤ x ∧ x < 256) (p h : Int) (l : List Int) (hl : 1 ≤ l.length) (h0 : 0 ≤ p) (h1 : p ≤ 900000000) : ∃ v p' h', spec_l1Cur_among.f s p h l = some (v, p', h') ∧ p ≤ p' ∧ p' ≤ p + 2 := by
  unfold spec_l1Cur_among.f
  obtain ⟨v, p', h', e, e0, e1, e2, e3, e4⟩ := pick_ok s hs hb p h (l.length : Int) h0 h1
  rw [e]
  simp only [Option.bind_some]
  rw [if_pos e0, if_pos (by by_cases h : 1 < (l.length : Int); exact e1 h; have := e2 (by omega); omega)]
  exact ⟨_, _, _, rfl, e3, e4⟩

theorem relation_ok (s : List Int) (hs : s.length ≤ 1048576) (hb : ∀ x ∈ s, 0 ≤ x ∧ x < 256) (p h a : Int) (h0 : 0 ≤ p) (h1 : p ≤ 800000000) (ha0 : 0 ≤ a) (ha : a ≤ 10) (k : Nat) (hk : 400 < k) : ∃ n l p' h', spec_l1Cur_relation.f k s p h a = some (n, l, p', h') ∧ l.length ≤ 10 ∧ p ≤ p' ∧ p' ≤ p + 400 := by
  unfold spec_l1Cur_relation.f
  obtain ⟨v, p1, g1, e, e0, e1, e2, e3, e4⟩ := pick_ok s hs hb p h (wrap64 (a + 1)) h0 (by omega)
  rw [wrap_ok (by omega) (by omega)] at e e1 e2
  rw [wrap_ok (by omega) (by omega), e]
  simp only [Option.bind_some]
  have hv : v ≤ 10 := by
    by_cases hc : 1 < a + 1
    · have := e1 hc; omega
    · have := e2 (by omega); omega
  obtain ⟨n, rfl⟩ := Int.eq_ofNat_of_zero_le e0
  have hn : n ≤ 10 := by omega
  have main : ∀ (d k : Nat) (l : List Int) (q g : Int), l.length + d = n → d * 14 + 2 < k → p1 ≤ q → q + d * 22 ≤ p1 + 240 → ∃ n' l' p' h', spec_l1Cur_relation.l0 k s q g (n : Int) l = some (n', l', p', h') ∧ l'.length ≤ 10 ∧ q ≤ p' ∧ p' ≤ p1 + 240 := by
    intro d
    induction d with
    | zero =>
      intro k l q g hd hk hq1 hq2
      obtain ⟨k, rfl⟩ : ∃ m, k = m + 1 := ⟨k - 1, by omega⟩
      rw [spec_l1Cur_relation.l0, if_neg (by omega)]
      exact ⟨_, _, _, _, rfl, by omega, by omega, by omega⟩
    | succ d ih =>
      intro k l q g hd hk hq1 hq2
      obtain ⟨k, rfl⟩ : ∃ m, k = m + 1 := ⟨k - 1, by omega⟩
      rw [spec_l1Cur_relation.l0, if_pos (by omega)]
      have inner : ∀ (e k i : Nat) (x q g : Int), i + e = n → d * 14 + 3 + e < k → p1 ≤ q → q + e * 2 + d * 22 ≤ p1 + 240 → ∃ n' l' p' h', spec_l1Cur_relation.l1 k x (i : Int) s q g (n : Int) l = some (n', l', p', h') ∧ l'.length ≤ 10 ∧ q ≤ p' ∧ p' ≤ p1 + 240 := by
        intro e
        induction e with
        | zero =>
          intro k i x q g hi hk hq1 hq2
          obtain ⟨k, rfl⟩ : ∃ m, k = m + 1 := ⟨k - 1, by omega⟩
          rw [spec_l1Cur_relation.l1, if_neg (by omega), if_pos (by omega)]
          exact ih k (l ++ [x]) q g (by simp; omega) (by omega) hq1 (by omega)
        | succ e ihe =>
          intro k i x q g hi hk hq1 hq2
          obtain ⟨k, rfl⟩ : ∃ m, k = m + 1 := ⟨k - 1, by omega⟩
          obtain ⟨b, q', g', e0, f1, f2⟩ := one_ok s hs hb q g 4 (by omega) (by omega)
          rw [spec_l1Cur_relation.l1, if_pos (by omega), e0]
          simp only [Option.bind_some]
          rw [wrap_ok (by omega) (by omega), show ((i : Int) + 1) = ((i + 1 : Nat) : Int) by omega, if_pos (Int.natCast_nonneg i)]
          split
          · obtain ⟨n', l', p', h', z, z1, z2, z3⟩ := ihe k (i + 1) (Go.bits .or .i64 x (shl .i64 1 (i : Int))) q' g' (by omega) (by omega) (by omega) (by omega)
            exact ⟨n', l', p', h', z, z1, by omega, z3⟩
          · obtain ⟨n', l', p', h', z, z1, z2, z3⟩ := ihe k (i + 1) x q' g' (by omega) (by omega) (by omega) (by omega)
            exact ⟨n', l', p', h', z, z1, by omega, z3⟩
      exact inner n k 0 0 q g (by omega) (by omega) hq1 (by omega)
  obtain ⟨n', l', p', h', z, z1, z2, z3⟩ := main n k [] p1 g1 (by simp) (by omega) (by omega) (by omega)
  exact ⟨n', l', p', h', z, z1, by omega, by omega⟩
theorem orHas_some (x i : Int) (h : 0 ≤ i) : ∃ b, spec_orHas.f x i = some b := by
  unfold spec_orHas.f
  rw [if_pos h]
  exact ⟨_, rfl⟩
theorem l1Own_some (l : List Int) (h : l.length ≤ 1048576) : spec_l1Own.f l = some l := by
  unfold spec_l1Own.f
  simp only [Option.bind_some, List.nil_append, List.length_nil]
  rw [if_pos (by omega)]
theorem close_ok (n : Int) (l : List Int) (hn : 0 ≤ n) (hl : l.length ≤ 10) (k : Nat) (hk : 200 < k) : ∃ n' l' b, spec_CloseRelation.f k n l = some (n', l', b) ∧ l'.length ≤ 10 ∧ 0 ≤ n' := by
  unfold spec_CloseRelation.f
  rw [orRelation_k n l (by omega) k (by omega)]
  simp only [Option.bind_some]
  cases isRel n l
  · exact ⟨0, [], false, rfl, by simp, by omega⟩
  · simp only [if_true]
    rw [l1Own_some l (by omega)]
    simp only [Option.bind_some]
    have main : ∀ (d k t : Nat) (x : List Int), x.length = l.length → t + d = l.length → d * 13 + 1 < k → ∃ n' l' b, spec_CloseRelation.l0 k (l.length : Int) (t : Int) n x = some (n', l', b) ∧ l'.length ≤ 10 ∧ 0 ≤ n' := by
      intro d
      induction d with
      | zero =>
        intro k t x hx ht hk
        obtain ⟨k, rfl⟩ : ∃ m, k = m + 1 := ⟨k - 1, by omega⟩
        rw [spec_CloseRelation.l0, if_neg (by omega)]
        exact ⟨_, _, _, rfl, by omega, hn⟩
      | succ d ih =>
        intro k t x hx ht hk
        obtain ⟨k, rfl⟩ : ∃ m, k = m + 1 := ⟨k - 1, by omega⟩
        rw [spec_CloseRelation.l0, if_pos (by omega), hx]
        have inner : ∀ (e k i : Nat) (x : List Int), x.length = l.length → i + e = l.length → d * 13 + 2 + e < k → ∃ n' l' b, spec_CloseRelation.l1 k (t : Int) (l.length : Int) (t : Int) (l.length : Int) (i : Int) n x = some (n', l', b) ∧ l'.length ≤ 10 ∧ 0 ≤ n' := by
          intro e
          induction e with
          | zero =>
            intro k i x hx hi hk
            obtain ⟨k, rfl⟩ : ∃ m, k = m + 1 := ⟨k - 1, by omega⟩
            rw [spec_CloseRelation.l1, if_neg (by omega), wrap_ok (by omega) (by omega), show ((t : Int) + 1) = ((t + 1 : Nat) : Int) by omega]
            exact ih k (t + 1) x hx (by omega) (by omega)
          | succ e ihe =>
            intro k i x hx hi hk
            obtain ⟨k, rfl⟩ : ∃ m, k = m + 1 := ⟨k - 1, by omega⟩
            obtain ⟨b, eb⟩ := orHas_some (rd x (i : Int)) (t : Int) (by omega)
            rw [spec_CloseRelation.l1, if_pos (by omega), if_pos (by omega), if_pos (by omega), eb]
            simp only [Option.bind_some]
            rw [wrap_ok (by omega) (by omega), show ((i : Int) + 1) = ((i + 1 : Nat) : Int) by omega, if_pos (Int.natCast_nonneg t), if_pos (show (t : Int) < (x.length : Int) by omega)]
            split
            · exact ihe k (i + 1) _ (by rw [List.length_set]; exact hx) (by omega) (by omega)
            · exact ihe k (i + 1) x hx (by omega) (by omega)
        exact inner l.length k 0 x hx (by omega) (by omega)
    exact main l.length k 0 l rfl (by omega) (by omega)
theorem order_ok (s : List Int) (hs : s.length ≤ 1048576) (hb : ∀ x ∈ s, 0 ≤ x ∧ x < 256) (p h a : Int) (h0 : 0 ≤ p) (h1 : p ≤ 800000000) (ha0 : 0 ≤ a) (ha : a ≤ 10) (k : Nat) (hk : 600 < k) : ∃ n l p' h', spec_l1Cur_order.f k s p h a = some (n, l, p', h') ∧ l.length ≤ 10 ∧ 0 ≤ n ∧ p ≤ p' ∧ p' ≤ p + 400 := by
  unfold spec_l1Cur_order.f
  obtain ⟨v, p1, g1, e, e0, e1, e2, e3, e4⟩ := pick_ok s hs hb p h (wrap64 (a + 1)) h0 (by omega)
  rw [wrap_ok (by omega) (by omega)] at e e1 e2
  rw [wrap_ok (by omega) (by omega), e]
  simp only [Option.bind_some]
  have hv : v ≤ 10 := by
    by_cases hc : 1 < a + 1
    · have := e1 hc; omega
    · have := e2 (by omega); omega
  obtain ⟨n, rfl⟩ := Int.eq_ofNat_of_zero_le e0
  have hn : n ≤ 10 := by omega
  obtain ⟨x7, p2, g2, f, f0, f1, f2, f3, f4⟩ := pick_ok s hs hb p1 g1 3 (by omega) (by omega)
  rw [if_pos (by omega), if_pos (by omega), f]
  simp only [Option.bind_some]
  -- the second loop
  have two : ∀ (A B : List Int), A.length = n → B.length = n → ∀ (d k i : Nat) (R : List Int) (q g : Int), R.length = n → i + d = n → 250 + d * 14 < k → p1 ≤ q → q + d * 22 ≤ p1 + 320 → ∃ n' l' p' h', spec_l1Cur_order.l1 k (n : Int) x7 A B (i : Int) s q g (n : Int) R = some (n', l', p', h') ∧ l'.length ≤ 10 ∧ 0 ≤ n' ∧ q ≤ p' ∧ p' ≤ p1 + 320 := by
    intro A B hA hB d
    induction d with
    | zero =>
      intro k i R q g hR hi hk hq1 hq2
      obtain ⟨k, rfl⟩ : ∃ m, k = m + 1 := ⟨k - 1, by omega⟩
      rw [spec_l1Cur_order.l1, if_neg (by omega)]
      split
      · exact ⟨_, _, _, _, rfl, by omega, by omega, by omega, by omega⟩
      · obtain ⟨n', l', b, z, z1, z2⟩ := close_ok (n : Int) R (by omega) (by omega) k (by omega)
        rw [z]
        exact ⟨_, _, _, _, rfl, z1, z2, by omega, by omega⟩
    | succ d ih =>
      intro k i R q g hR hi hk hq1 hq2
      obtain ⟨k, rfl⟩ : ∃ m, k = m + 1 := ⟨k - 1, by omega⟩
      rw [spec_l1Cur_order.l1, if_pos (by omega)]
      have inner : ∀ (e k j : Nat) (R : List Int) (q g : Int), R.length = n → j + e = n → 250 + d * 14 + 1 + e < k → p1 ≤ q → q + e * 2 + d * 22 ≤ p1 + 320 → ∃ n' l' p' h', spec_l1Cur_order.l2 k (n : Int) x7 A B (i : Int) (j : Int) s q g (n : Int) R = some (n', l', p', h') ∧ l'.length ≤ 10 ∧ 0 ≤ n' ∧ q ≤ p' ∧ p' ≤ p1 + 320 := by
        intro e
        induction e with
        | zero =>
          intro k j R q g hR hj hk hq1 hq2
          obtain ⟨k, rfl⟩ : ∃ m, k = m + 1 := ⟨k - 1, by omega⟩
          rw [spec_l1Cur_order.l2, if_neg (by omega), wrap_ok (by omega) (by omega), show ((i : Int) + 1) = ((i + 1 : Nat) : Int) by omega]
          exact ih k (i + 1) R q g hR (by omega) (by omega) hq1 (by omega)
        | succ e ihe =>
          intro k j R q g hR hj hk hq1 hq2
          obtain ⟨k, rfl⟩ : ∃ m, k = m + 1 := ⟨k - 1, by omega⟩
          have next : ∀ (R' : List Int) (q' g' : Int), R'.length = n → q ≤ q' → q' ≤ q + 2 → ∃ n' l' p' h', spec_l1Cur_order.l2 k (n : Int) x7 A B (i : Int) ((j + 1 : Nat) : Int) s q' g' (n : Int) R' = some (n', l', p', h') ∧ l'.length ≤ 10 ∧ 0 ≤ n' ∧ q ≤ p' ∧ p' ≤ p1 + 320 := by
            intro R' q' g' hR' h3 h4
            obtain ⟨n', l', p', h', z, z1, z2, z3, z4⟩ := ihe k (j + 1) R' q' g' hR' (by omega) (by omega) (by omega) (by omega)
            exact ⟨n', l', p', h', z, z1, z2, by omega, z4⟩
          obtain ⟨b, q', g', o0, o1, o2⟩ := one_ok s hs hb q g 3 (by omega) (by omega)
          rw [spec_l1Cur_order.l2, if_pos (by omega), wrap_ok (by omega) (by omega), show ((j : Int) + 1) = ((j + 1 : Nat) : Int) by omega, o0]
          simp only [Option.bind_some]
          have c1 : (0 : Int) ≤ (i : Int) := Int.natCast_nonneg i
          have c2 : (0 : Int) ≤ (j : Int) := Int.natCast_nonneg j
          have c3 : (i : Int) < (B.length : Int) := by omega
          have c4 : (j : Int) < (A.length : Int) := by omega
          have c5 : (i : Int) < (R.length : Int) := by omega
          simp only [if_pos c1, if_pos c2, if_pos c3, if_pos c4, if_pos c5]
          repeat' split
          all_goals first
            | exact next _ q g hR (by omega) (by omega)
            | exact next _ q' g' hR (by omega) (by omega)
            | exact next _ q g (by rw [List.length_set]; exact hR) (by omega) (by omega)
            | exact next _ q' g' (by rw [List.length_set]; exact hR) (by omega) (by omega)
      exact inner n k 0 R q g hR (by omega) (by omega) hq1 (by omega)
  have one : ∀ (d k i : Nat) (A B : List Int) (q g : Int), A.length = i → B.length = i → i + d = n → 400 + d < k → p1 ≤ q → q + d * 4 ≤ p1 + 60 → ∃ n' l' p' h', spec_l1Cur_order.l0 k (n : Int) x7 A B (i : Int) s q g (n : Int) (List.replicate n 0) = some (n', l', p', h') ∧ l'.length ≤ 10 ∧ 0 ≤ n' ∧ q ≤ p' ∧ p' ≤ p1 + 320 := by
    intro d
    induction d with
    | zero =>
      intro k i A B q g hA hB hi hk hq1 hq2
      obtain ⟨k, rfl⟩ : ∃ m, k = m + 1 := ⟨k - 1, by omega⟩
      rw [spec_l1Cur_order.l0, if_neg (by omega)]
      exact two A B (by omega) (by omega) n k 0 (List.replicate n 0) q g (by simp) (by omega) (by omega) hq1 (by omega)
    | succ d ih =>
      intro k i A B q g hA hB hi hk hq1 hq2
      obtain ⟨k, rfl⟩ : ∃ m, k = m + 1 := ⟨k - 1, by omega⟩
      obtain ⟨v8, q8, g8, o, o0, o1, o2, o3, o4⟩ := pick_ok s hs hb q g 8 (by omega) (by omega)
      obtain ⟨v4, q4, g4, r, r0, r1, r2, r3, r4⟩ := pick_ok s hs hb q8 g8 4 (by omega) (by omega)
      rw [spec_l1Cur_order.l0, if_pos (by omega), o]
      simp only [Option.bind_some]
      rw [if_pos (by omega), r]
      simp only [Option.bind_some]
      have cB : B.length < 17592186044416 := by omega
      simp only [if_pos cB]
      rw [wrap_ok (x := (i : Int) + 1) (by omega) (by omega), show ((i : Int) + 1) = ((i + 1 : Nat) : Int) by omega]
      split
      · obtain ⟨n', l', p', h', z, z1, z2, z3, z4⟩ := ih k (i + 1) (A ++ [v8]) (B ++ [wrap64 (v8 + v4)]) q4 g4 (by simp; omega) (by simp; omega) (by omega) (by omega) (by omega) (by omega)
        exact ⟨n', l', p', h', z, z1, z2, by omega, z4⟩
      · obtain ⟨n', l', p', h', z, z1, z2, z3, z4⟩ := ih k (i + 1) (A ++ [v8]) (B ++ [wrap64 (v8 + 2)]) q8 g8 (by simp; omega) (by simp; omega) (by omega) (by omega) (by omega) (by omega)
        exact ⟨n', l', p', h', z, z1, z2, by omega, z4⟩
  obtain ⟨n', l', p', h', z, z1, z2, z3, z4⟩ := one n k 0 [] [] p2 g2 rfl rfl (by omega) (by omega) (by omega) (by omega)
  have en : ((n : Nat) : Int).toNat = n := by omega
  rw [show ((n : Int)).toNat = n from en]
  exact ⟨n', l', p', h', z, z1, z2, by omega, by omega⟩

theorem anyOrder_ok (s : List Int) (hs : s.length ≤ 1048576) (hb : ∀ x ∈ s, 0 ≤ x ∧ x < 256) (p h a : Int) (h0 : 0 ≤ p) (h1 : p ≤ 700000000) (ha0 : 0 ≤ a) (ha : a ≤ 10) (k : Nat) (hk : 600 < k) : ∃ n l p' h', spec_l1Cur_anyOrder.f k s p h a = some (n, l, p', h') ∧ l.length ≤ 10 ∧ p ≤ p' ∧ p' ≤ p + 1000 := by
  unfold spec_l1Cur_anyOrder.f
  obtain ⟨n, l, p1, g1, e, e1, e2, e3, e4⟩ := order_ok s hs hb p h a h0 (by omega) ha0 ha k hk
  rw [e]
  simp only [Option.bind_some]
  obtain ⟨v, p2, g2, f, f0, f1, f2, f3, f4⟩ := pick_ok s hs hb p1 g1 14 (by omega) (by omega)
  rw [f]
  simp only [Option.bind_some]
  split
  · obtain ⟨n', l', p', h', z, z1, z2, z3⟩ := relation_ok s hs hb p2 g2 a (by omega) (by omega) ha0 ha k (by omega)
    rw [z]
    simp only [Option.bind_some]
    exact ⟨_, _, _, _, rfl, z1, by omega, by omega⟩
  · split
    · obtain ⟨v', p', h', z, z1, z2⟩ := among_ok s hs hb p2 g2 [(-1), 0, 10, 11] (by simp) (by omega) (by omega)
      rw [z]
      simp only [Option.bind_some]
      exact ⟨_, _, _, _, rfl, e1, by omega, by omega⟩
    · split
      · split
        · rename_i hpos
          obtain ⟨w, p3, g3, u, u0, u1, u2, u3, u4⟩ := pick_ok s hs hb p2 g2 (l.length : Int) (by omega) (by omega)
          obtain ⟨v', p', h', z, z1, z2⟩ := among_ok s hs hb p3 g3 [(-1), 0, 1, shl .i64 1 n] (by simp) (by omega) (by omega)
          rw [u]
          simp only [Option.bind_some]
          first | rw [if_pos e2, z] | rw [z]
          simp only [Option.bind_some]
          rw [if_pos u0, if_pos (by by_cases hc : 1 < (l.length : Int); exact u1 hc; have := u2 (by omega); omega)]
          exact ⟨_, _, _, _, rfl, by rw [List.length_set]; exact e1, by omega, by omega⟩
        · exact ⟨_, _, _, _, rfl, e1, by omega, by omega⟩
      · split
        · obtain ⟨n', l', p', h', z, z1, z2, z3, z4⟩ := order_ok s hs hb p2 g2 10 (by omega) (by omega) (by omega) (by omega) k hk
          rw [z]
          simp only [Option.bind_some]
          exact ⟨_, _, _, _, rfl, z1, by omega, by omega⟩
        · exact ⟨_, _, _, _, rfl, e1, by omega, by omega⟩

theorem inRise_nat (l : List Int) (m : Nat) (h : InRise l 0 ((m : Int) - 1) 0) : ∃ rs : List Nat, l = rs.map (fun (x : Nat) => (x : Int)) ∧ ∀ j, j < rs.length → rs.getD j 0 < m := by
  refine ⟨l.map Int.toNat, ?_, ?_⟩
  · rw [List.map_map]
    apply List.ext_getElem
    · simp
    · intro j h1 h2
      have := (h j (by omega) h1).1
      rw [List.getD_eq_getElem?_getD, List.getElem?_eq_getElem h1] at this
      simp at this ⊢
      omega
  · intro j hj
    have hj2 : j < l.length := by simpa using hj
    have := (h j (by omega) hj2).1
    rw [List.getD_eq_getElem?_getD, List.getElem?_eq_getElem hj2] at this
    rw [List.getD_eq_getElem?_getD, List.getElem?_eq_getElem hj]
    simp at this ⊢
    omega
theorem inRise_iff (l : List Int) (b : Int) : InRise l 0 b 0 ↔ allIn l 0 b = true ∧ Rising l := by
  rw [allIn_iff]
  constructor
  · intro h
    refine ⟨fun x hx => ?_, fun j h1 h2 => (h j (by omega) h2).2 h1⟩
    obtain ⟨j, hj, rfl⟩ := List.getElem_of_mem hx
    have := (h j (by omega) hj).1
    rw [List.getD_eq_getElem?_getD, List.getElem?_eq_getElem hj] at this
    exact this
  · rintro ⟨h1, h2⟩ j _ hj
    refine ⟨?_, fun h => h2 j h hj⟩
    rw [List.getD_eq_getElem?_getD, List.getElem?_eq_getElem hj]
    exact h1 _ (List.getElem_mem hj)
/-- Is the column's element better than the row's? -/
def ooP (ms rs cs : List Nat) (r c : Nat) : Bool := (ms.getD (rs.getD r 0) 0).testBit (cs.getD c 0)
theorem tableOfOrder_1 (m : Nat) (hm : m ≤ 10) (ms rs cs : List Nat) (hl : ms.length = m) (hb : ∀ x ∈ ms, x < 2 ^ m) (hr : ∀ j, j < rs.length → rs.getD j 0 < m) (hc : ∀ j, j < cs.length → cs.getD j 0 < m) (i j : Nat) (hi : i < rs.length) (hj : j < cs.length) :
    impl_TableOfOrder_1.f (i : Int) (j : Int) (m : Int) (ms.map (fun (x : Nat) => (x : Int))) (rs.map (fun (x : Nat) => (x : Int))) (cs.map (fun (x : Nat) => (x : Int))) = some (ooP ms rs cs i j) := by
  unfold impl_TableOfOrder_1.f ooP
  have lr : ((rs.map (fun (x : Nat) => (x : Int))).length : Int) = (rs.length : Int) := by simp
  have lc : ((cs.map (fun (x : Nat) => (x : Int))).length : Int) = (cs.length : Int) := by simp
  have lm : (ms.map (fun (x : Nat) => (x : Int))).length = m := by simp [hl]
  have a1 := hr i hi
  have a2 := hc j hj
  have a3 := getD_lt (Nat.two_pow_pos m) hb (rs.getD i 0)
  have h2 : 2 ^ m ≤ 2 ^ 10 := Nat.pow_le_pow_right (by omega) hm
  rw [if_pos (by omega), if_pos (by omega), if_pos (by omega), if_pos (by omega), rd_map, rd_map, better_k (m : Int) _ _ _ _ (by omega) (rd_map ms _) (by omega) (by omega)]
  rfl
theorem tableOfOrder_l0 (m : Nat) (hm : m ≤ 10) (ms rs cs : List Nat) (hl : ms.length = m) (hb : ∀ x ∈ ms, x < 2 ^ m) (hr : ∀ j, j < rs.length → rs.getD j 0 < m) (hc : ∀ j, j < cs.length → cs.getD j 0 < m) (hrl : rs.length ≤ 6) (hcl : cs.length ≤ 6) : ∀ (d k i : Nat), i + d = rs.length → d * (cs.length + 3) < k →
    spec_TableOfOrder.l0 k (cs.map (fun (x : Nat) => (x : Int))) (rs.map (fun (x : Nat) => (x : Int))) (rs.length : Int) (i : Int) (m : Int) (ms.map (fun (x : Nat) => (x : Int))) (rs.length : Int) (cs.length : Int) ((List.range i).map (fun r => ((bitsum (ooP ms rs cs r) cs.length : Nat) : Int))) = some ((rs.length : Int), (cs.length : Int), relList rs.length cs.length (ooP ms rs cs), true) := by
  intro d
  have lr : ((rs.map (fun (x : Nat) => (x : Int))).length : Int) = (rs.length : Int) := by simp
  have lc : ((cs.map (fun (x : Nat) => (x : Int))).length : Int) = (cs.length : Int) := by simp
  have lm : ((ms.map (fun (x : Nat) => (x : Int))).length : Int) = (m : Int) := by simp [hl]
  induction d with
  | zero =>
    intro k i hi hk
    obtain ⟨k, rfl⟩ : ∃ m, k = m + 1 := ⟨k - 1, by omega⟩
    simp only [spec_TableOfOrder.l0]
    have e : i = rs.length := by omega
    rw [if_neg (by omega), e]
    rfl
  | succ d ih =>
    intro k i hi hk
    rw [Nat.succ_mul] at hk
    obtain ⟨k, rfl⟩ : ∃ m, k = m + 1 := ⟨k - 1, by omega⟩
    simp only [spec_TableOfOrder.l0]
    have a1 := hr i (by omega)
    rw [if_pos (by omega), if_pos (by omega), if_pos (by omega), rd_map, lc]
    have inner : ∀ (e k j : Nat), j + e = cs.length → d * (cs.length + 3) + 1 + e < k → spec_TableOfOrder.l1 k (cs.map (fun (x : Nat) => (x : Int))) ((rs.getD i 0 : Nat) : Int) ((bitsum (ooP ms rs cs i) j : Nat) : Int) (rs.map (fun (x : Nat) => (x : Int))) (rs.length : Int) (i : Int) (cs.map (fun (x : Nat) => (x : Int))) (cs.length : Int) (j : Int) (m : Int) (ms.map (fun (x : Nat) => (x : Int))) (rs.length : Int) (cs.length : Int) ((List.range i).map (fun r => ((bitsum (ooP ms rs cs r) cs.length : Nat) : Int))) = some ((rs.length : Int), (cs.length : Int), relList rs.length cs.length (ooP ms rs cs), true) := by
      intro e
      induction e with
      | zero =>
        intro k j hj hk
        obtain ⟨k, rfl⟩ : ∃ m, k = m + 1 := ⟨k - 1, by omega⟩
        simp only [spec_TableOfOrder.l1]
        have e2 : j = cs.length := by omega
        have next := ih k (i + 1) (by omega) (by omega)
        rw [List.range_succ, List.map_append] at next
        rw [if_neg (by omega), if_pos (by simp; omega), wrap_ok (by omega) (by omega), show ((i : Int) + 1) = ((i + 1 : Nat) : Int) by omega, e2]
        exact next
      | succ e ihe =>
        intro k j hj hk
        obtain ⟨k, rfl⟩ : ∃ m, k = m + 1 := ⟨k - 1, by omega⟩
        simp only [spec_TableOfOrder.l1]
        have next := ihe k (j + 1) (by omega) (by omega)
        have a2 := hc j (by omega)
        have ep : (ms.getD (rs.getD i 0) 0).testBit (cs.getD j 0) = ooP ms rs cs i j := rfl
        rw [if_pos (by omega), if_pos (by omega), if_pos (by omega), if_pos (Int.natCast_nonneg _), lm, if_pos (Int.ofNat_lt.2 a1), rd_map, rd_map, orHas_k _ _ (by omega), ep, wrap_ok (by omega) (by omega), show ((j : Int) + 1) = ((j + 1 : Nat) : Int) by omega, or_shl _ j (Nat.lt_of_lt_of_le (bitsum_lt (ooP ms rs cs i) j) (Nat.pow_le_pow_right (by omega) (by omega))) (by omega)]
        simp only [Option.bind_some]
        rw [bitsum] at next
        cases hp : ooP ms rs cs i j
        · rw [if_neg (by simp)]
          rw [hp] at next
          simpa using next
        · rw [if_pos rfl]
          rw [hp] at next
          simpa using next
    exact inner cs.length k 0 (by omega) (by omega)
theorem tableOfOrder_both (n : Int) (l A B : List Int) (h : (l.length : Int) ≤ 1048576) (hA : A.length ≤ 1048576) (hB : B.length ≤ 1048576) : ∃ a b y z, y.length ≤ 6 ∧ (∀ k, l.length + A.length + B.length + 700 < k → impl_TableOfOrder.f k n l A B = some (a, b, y, z)) ∧ (∀ k, l.length + A.length + B.length + 700 < k → spec_TableOfOrder.f k n l A B = some (a, b, y, z)) ∧ (z = true → ∃ (m : Nat) (ms : List Nat), n = (m : Int) ∧ l = ms.map (fun (x : Nat) => (x : Int)) ∧ m ≤ 10 ∧ ms.length = m ∧ (∀ x ∈ ms, x < 2 ^ m) ∧ (List.range' 0 m).all (ordRow m ms) = true ∧ 1 ≤ m) := by
  obtain ⟨o, ho, hd⟩ := order_both n l (by omega)
  by_cases hv : o = true ∧ (1 ≤ (A.length : Int) ∧ (A.length : Int) ≤ 6) ∧ (1 ≤ (B.length : Int) ∧ (B.length : Int) ≤ 6) ∧ InRise A 0 (wrap64 (n - 1)) 0 ∧ InRise B 0 (wrap64 (n - 1)) 0
  · obtain ⟨ho1, w1, w2, r1, r2⟩ := hv
    obtain ⟨m, ms, rfl, rfl, h1, h2, h3, hord⟩ := hd ho1
    have ew : wrap64 ((m : Int) - 1) = (m : Int) - 1 := wrap_ok (by omega) (by omega)
    have q1 := (inRise_iff A _).1 r1
    have q2 := (inRise_iff B _).1 r2
    rw [ew] at r1 r2 q1 q2
    obtain ⟨rs, rfl, hr⟩ := inRise_nat A m r1
    obtain ⟨cs, rfl, hc⟩ := inRise_nat B m r2
    have lr : (rs.map (fun (x : Nat) => (x : Int))).length = rs.length := by simp
    have lc : (cs.map (fun (x : Nat) => (x : Int))).length = cs.length := by simp
    have hAB : rs.length * (cs.length + 3) ≤ 6 * 9 := Nat.mul_le_mul (by omega) (by omega)
    refine ⟨(rs.length : Int), (cs.length : Int), relList rs.length cs.length (ooP ms rs cs), true, by rw [relList_length]; omega, fun k hk => ?_, fun k hk => ?_, fun _ => ⟨m, ms, rfl, rfl, h1, h2, h3, hord, by have := hr 0 (by omega); omega⟩⟩
    · unfold impl_TableOfOrder.f
      rw [(ho k (by omega)).1, ho1]
      obtain ⟨k, rfl⟩ : ∃ q, k = q + 1 := ⟨k - 1, by omega⟩
      obtain ⟨b1, hb1, hb1'⟩ := isIncreasing_k (rs.map (fun (x : Nat) => (x : Int))) (by omega) k (by omega)
      obtain ⟨b2, hb2, hb2'⟩ := isIncreasing_k (cs.map (fun (x : Nat) => (x : Int))) (by omega) k (by omega)
      obtain rfl : b1 = true := hb1'.2 q1.2
      obtain rfl : b2 = true := hb2'.2 q2.2
      simp only [within_eq, w1, w2, and_self, decide_true, Option.bind_some, if_true, impl_TableOfOrder.j0, Bool.not_true, Bool.false_eq_true, if_false, impl_Order_has.f, ew]
      rw [allWithin_k _ _ _ (by omega) k (by omega), allWithin_k _ _ _ (by omega) k (by omega), q1.1, q2.1]
      simp only [Option.bind_some, if_true, hb1, hb2]
      rw [lr, lc, table_k rs.length cs.length (by omega) (by omega) _ (ooP ms rs cs) (fun i j hi hj => tableOfOrder_1 m h1 ms rs cs h2 h3 hr hc i j hi hj) k (by omega)]
      rfl
    · unfold spec_TableOfOrder.f
      rw [(ho k (by omega)).2, ho1]
      obtain ⟨b1, hb1, hb1'⟩ := rising_k (rs.map (fun (x : Nat) => (x : Int))) 0 ((m : Int) - 1) (by omega) k (by omega)
      obtain ⟨b2, hb2, hb2'⟩ := rising_k (cs.map (fun (x : Nat) => (x : Int))) 0 ((m : Int) - 1) (by omega) k (by omega)
      obtain rfl : b1 = true := hb1'.2 r1
      obtain rfl : b2 = true := hb2'.2 r2
      obtain ⟨k, rfl⟩ : ∃ q, k = q + 1 := ⟨k - 1, by omega⟩
      simp only [l1In_eq, w1, w2, and_self, decide_true, Option.bind_some, if_true, ew, hb1, hb2, spec_TableOfOrder.j0, Bool.not_true, Bool.false_eq_true, if_false]
      rw [lr, lc]
      exact tableOfOrder_l0 m h1 ms rs cs h2 h3 hr hc (by omega) (by omega) rs.length k 0 (by omega) (by omega)
  · refine ⟨0, 0, [], false, by simp, fun k hk => ?_, fun k hk => ?_, fun h => by cases h⟩
    · unfold impl_TableOfOrder.f
      rw [(ho k (by omega)).1]
      obtain ⟨k, rfl⟩ : ∃ q, k = q + 1 := ⟨k - 1, by omega⟩
      obtain ⟨b1, hb1, hb1'⟩ := isIncreasing_k A (by omega) k (by omega)
      obtain ⟨b2, hb2, hb2'⟩ := isIncreasing_k B (by omega) k (by omega)
      simp only [within_eq, Option.bind_some, impl_TableOfOrder.j0, impl_Order_has.f, allWithin_k A _ _ (show A.length ≤ 4611686018427387904 by omega) k (by omega), allWithin_k B _ _ (show B.length ≤ 4611686018427387904 by omega) k (by omega), hb1, hb2]
      rw [inRise_iff, inRise_iff, ← hb1', ← hb2'] at hv
      by_cases w1 : 1 ≤ (A.length : Int) ∧ (A.length : Int) ≤ 6
      · by_cases w2 : 1 ≤ (B.length : Int) ∧ (B.length : Int) ≤ 6
        · cases o
          · simp
          · cases h3 : allIn A 0 (wrap64 (n - 1))
            · simp [w1, w2]
            · cases h4 : allIn B 0 (wrap64 (n - 1))
              · simp [w1, w2]
              · cases b1
                · simp [w1, w2]
                · cases b2
                  · simp [w1, w2]
                  · exact absurd ⟨rfl, w1, w2, ⟨h3, rfl⟩, ⟨h4, rfl⟩⟩ hv
        · cases o <;> simp [w1, w2]
      · cases o <;> simp [w1]
    · unfold spec_TableOfOrder.f
      rw [(ho k (by omega)).2]
      obtain ⟨b1, hb1, hb1'⟩ := rising_k A 0 (wrap64 (n - 1)) (by omega) k (by omega)
      obtain ⟨b2, hb2, hb2'⟩ := rising_k B 0 (wrap64 (n - 1)) (by omega) k (by omega)
      obtain ⟨k, rfl⟩ : ∃ q, k = q + 1 := ⟨k - 1, by omega⟩
      simp only [l1In_eq, Option.bind_some, spec_TableOfOrder.j0, hb1, hb2]
      rw [← hb1', ← hb2'] at hv
      by_cases w1 : 1 ≤ (A.length : Int) ∧ (A.length : Int) ≤ 6
      · by_cases w2 : 1 ≤ (B.length : Int) ∧ (B.length : Int) ≤ 6
        · cases o
          · simp
          · cases b1
            · simp [w1, w2]
            · cases b2
              · simp [w1, w2]
              · exact absurd ⟨rfl, w1, w2, rfl, rfl⟩ hv
        · cases o <;> simp [w1, w2]
      · cases o <;> simp [w1]
theorem tableOfOrder_yes (m : Nat) (h1 : m ≤ 10) (ms rs cs : List Nat) (h2 : ms.length = m) (h3 : ∀ x ∈ ms, x < 2 ^ m) (hr : ∀ j, j < rs.length → rs.getD j 0 < m) (hc : ∀ j, j < cs.length → cs.getD j 0 < m) (w1 : 1 ≤ ((rs.map (fun (x : Nat) => (x : Int))).length : Int) ∧ ((rs.map (fun (x : Nat) => (x : Int))).length : Int) ≤ 6) (w2 : 1 ≤ ((cs.map (fun (x : Nat) => (x : Int))).length : Int) ∧ ((cs.map (fun (x : Nat) => (x : Int))).length : Int) ≤ 6) (q1 : allIn (rs.map (fun (x : Nat) => (x : Int))) 0 ((m : Int) - 1) = true ∧ Rising (rs.map (fun (x : Nat) => (x : Int)))) (q2 : allIn (cs.map (fun (x : Nat) => (x : Int))) 0 ((m : Int) - 1) = true ∧ Rising (cs.map (fun (x : Nat) => (x : Int))))
    (ho : ∀ k, 400 < k → impl_IsOrder.f k (m : Int) (ms.map (fun (x : Nat) => (x : Int))) = some true) (k : Nat) (hk : 1000 < k) : impl_TableOfOrder.f k (m : Int) (ms.map (fun (x : Nat) => (x : Int))) (rs.map (fun (x : Nat) => (x : Int))) (cs.map (fun (x : Nat) => (x : Int))) = some ((rs.length : Int), (cs.length : Int), relList rs.length cs.length (ooP ms rs cs), true) := by
  have ew : wrap64 ((m : Int) - 1) = (m : Int) - 1 := wrap_ok (by omega) (by omega)
  have lr : (rs.map (fun (x : Nat) => (x : Int))).length = rs.length := by simp
  have lc : (cs.map (fun (x : Nat) => (x : Int))).length = cs.length := by simp
  have hAB : rs.length * (cs.length + 3) ≤ 6 * 9 := Nat.mul_le_mul (by omega) (by omega)
  unfold impl_TableOfOrder.f
  rw [ho k (by omega)]
  obtain ⟨k, rfl⟩ : ∃ q, k = q + 1 := ⟨k - 1, by omega⟩
  obtain ⟨b1, hb1, hb1'⟩ := isIncreasing_k (rs.map (fun (x : Nat) => (x : Int))) (by omega) k (by omega)
  obtain ⟨b2, hb2, hb2'⟩ := isIncreasing_k (cs.map (fun (x : Nat) => (x : Int))) (by omega) k (by omega)
  obtain rfl : b1 = true := hb1'.2 q1.2
  obtain rfl : b2 = true := hb2'.2 q2.2
  simp only [within_eq, w1, w2, and_self, decide_true, Option.bind_some, if_true, impl_TableOfOrder.j0, Bool.not_true, Bool.false_eq_true, if_false, impl_Order_has.f, ew]
  rw [allWithin_k _ _ _ (by omega) k (by omega), allWithin_k _ _ _ (by omega) k (by omega), q1.1, q2.1]
  simp only [Option.bind_some, if_true, hb1, hb2]
  rw [lr, lc, table_k rs.length cs.length (by omega) (by omega) _ (ooP ms rs cs) (fun i j hi hj => tableOfOrder_1 m h1 ms rs cs h2 h3 hr hc i j hi hj) k (by omega)]
  rfl

theorem vSame_k (l : List Int) (hl : l.length ≤ 1048576) (k : Nat) (hk : l.length < k) : laws_vSame.f k l l = some true := by
  unfold laws_vSame.f
  rw [if_pos rfl]
  have main : ∀ (d k i : Nat), i + d = l.length → d < k → laws_vSame.l0 k l l (l.length : Int) (i : Int) = some true := by
    intro d
    induction d with
    | zero =>
      intro k i hi hk
      obtain ⟨k, rfl⟩ : ∃ m, k = m + 1 := ⟨k - 1, by omega⟩
      rw [laws_vSame.l0, if_neg (by omega)]
    | succ d ih =>
      intro k i hi hk
      obtain ⟨k, rfl⟩ : ∃ m, k = m + 1 := ⟨k - 1, by omega⟩
      have c1 : (i : Int) < (l.length : Int) := by omega
      have c2 : (0 : Int) ≤ (i : Int) := Int.natCast_nonneg i
      rw [laws_vSame.l0]
      simp only [if_pos c1, if_pos c2, if_true]
      rw [wrap_ok (by omega) (by omega), show ((i : Int) + 1) = ((i + 1 : Nat) : Int) by omega]
      exact ih k (i + 1) (by omega) (by omega)
  exact main l.length k 0 (by omega) hk
theorem vTable_k (R C : Int) (M : List Int) (hM : M.length ≤ 1048576) (k : Nat) (hk : M.length < k) : laws_vTable.f k R C M R C M = some true := by
  unfold laws_vTable.f
  rw [if_pos rfl, if_pos rfl, vSame_k M hM k hk]
  rfl
theorem row_self (x n : Nat) (h : x < 2 ^ n) : bitsum x.testBit n = x := by
  apply Nat.eq_of_testBit_eq
  intro i
  rw [bitsum_bit]
  by_cases hi : i < n
  · simp [hi]
  · have : x.testBit i = false := Nat.testBit_lt_two_pow (Nat.lt_of_lt_of_le h (Nat.pow_le_pow_right (by omega) (by omega)))
    simp [this]
theorem meet_sub (r c : Nat) (ms ns : List Nat) (h5 : ms.length = r) (h6 : ∀ x ∈ ms, x < 2 ^ c) (hs : ∀ i j, i < r → mk ms i j = true → mk ns i j = true) : relList r c (fun r c => mk ms r c && mk ns r c) = ms.map (fun (x : Nat) => (x : Int)) := by
  rw [relList_congr (p' := fun i j => mk ms i j) (fun i j hi _ => by
    cases h : mk ms i j
    · rfl
    · rw [hs i j hi h]; rfl)]
  unfold relList
  apply List.ext_getElem
  · simp [h5]
  · intro i hi1 hi2
    have hi : i < r := by simpa using hi1
    simp only [List.getElem_map, List.getElem_range]
    have e : (bitsum (fun j => mk ms i j) c) = ms[i]'(by omega) := by
      have := row_self (ms.getD i 0) c (getD_lt (Nat.two_pow_pos c) h6 i)
      have e2 : ms.getD i 0 = ms[i]'(by omega) := by
        rw [List.getD_eq_getElem?_getD, List.getElem?_eq_getElem (by omega)]
        rfl
      rw [← e2]
      exact this
    exact congrArg (fun (x : Nat) => (x : Int)) e
theorem two_l3 (m : Nat) (ms : List Nat) (hl : ms.length = m) (hm : m ≤ 10) (hb : ∀ x ∈ ms, x < 2 ^ m) (a b c : Nat) (ha : a < m) (hB : b < m) (hc : c < m) (d : Nat) (hd : d < m) :
    Step (fun k d => impl_Order_twoTwo.l3 k (a : Int) (b : Int) (c : Int) (m : Int) (a : Int) (m : Int) (b : Int) (m : Int) (c : Int) (m : Int) (d : Int) (m : Int) (asInts ms)) (four4 ms a b c) 0 d := by
  have h2 : 2 ^ m ≤ 2 ^ 10 := Nat.pow_le_pow_right (by omega) hm
  have lm : (asInts ms).length = m := by simp [asInts, hl]
  have bet : ∀ i j : Nat, i < m → j < m → impl_Order_better.f (m : Int) (asInts ms) (i : Int) (j : Int) = some (mk ms i j) := by
    intro i j hi hj
    have := getD_lt (Nat.two_pow_pos m) hb i
    exact better_k (m : Int) (asInts ms) i j (ms.getD i 0) (by omega) (rd_map ms i) (by omega) (by omega)
  refine ⟨fun v hv k _ => ?_, fun hv K v hK k hk => ?_⟩
  all_goals
    simp only [impl_Order_twoTwo.l3]
    rw [if_pos (by omega), bet a b ha hB, bet c d hc hd, bet c b hc hB, bet a d ha hd, wrap_ok (by omega) (by omega), nat_succ]
    unfold four4 four at hv
    simp only [Option.bind_some]
  · cases h1 : mk ms a b <;> cases h2 : mk ms c d <;> cases h3 : mk ms c b <;> cases h4 : mk ms a d <;> simp [h1, h2, h3, h4] at hv ⊢
    exact hv
  · have hn := hK k (by omega)
    cases h1 : mk ms a b <;> cases h2 : mk ms c d <;> cases h3 : mk ms c b <;> cases h4 : mk ms a d <;> simp [h1, h2, h3, h4] at hv ⊢ <;> exact hn
theorem two_l2 (m : Nat) (ms : List Nat) (hl : ms.length = m) (hm : m ≤ 10) (hb : ∀ x ∈ ms, x < 2 ^ m) (a b : Nat) (ha : a < m) (hB : b < m) (c : Nat) (hc : c < m) :
    Step (fun k c => impl_Order_twoTwo.l2 k (a : Int) (b : Int) (m : Int) (a : Int) (m : Int) (b : Int) (m : Int) (c : Int) (m : Int) (asInts ms)) (four3 m ms a b) (0 + m * (0 + 1) + 1) c :=
  search2 0 (two_l3 m ms hl hm hb a b c ha hB hc) rfl
    (fun k _ => by simp only [impl_Order_twoTwo.l2]; rw [if_pos (by omega)]; rfl)
    (fun k => by simp only [impl_Order_twoTwo.l3]; rw [if_neg (by omega), wrap_ok (by omega) (by omega), nat_succ])
theorem two_l1 (m : Nat) (ms : List Nat) (hl : ms.length = m) (hm : m ≤ 10) (hb : ∀ x ∈ ms, x < 2 ^ m) (a : Nat) (ha : a < m) (b : Nat) (hB : b < m) :
    Step (fun k b => impl_Order_twoTwo.l1 k (a : Int) (m : Int) (a : Int) (m : Int) (b : Int) (m : Int) (asInts ms)) (four2 m m ms a) (0 + m * (0 + m * (0 + 1) + 1 + 1) + 1) b :=
  search2 0 (two_l2 m ms hl hm hb a b ha hB) rfl
    (fun k _ => by simp only [impl_Order_twoTwo.l1]; rw [if_pos (by omega)]; rfl)
    (fun k => by simp only [impl_Order_twoTwo.l2]; rw [if_neg (by omega), wrap_ok (by omega) (by omega), nat_succ])
theorem two_l0 (m : Nat) (ms : List Nat) (hl : ms.length = m) (hm : m ≤ 10) (hb : ∀ x ∈ ms, x < 2 ^ m) (a : Nat) (ha : a < m) :
    Step (fun k a => impl_Order_twoTwo.l0 k (m : Int) (a : Int) (m : Int) (asInts ms)) (four1 m m ms) (0 + m * (0 + m * (0 + m * (0 + 1) + 1 + 1) + 1 + 1) + 1) a :=
  search2 0 (two_l1 m ms hl hm hb a ha) rfl
    (fun k _ => by simp only [impl_Order_twoTwo.l0]; rw [if_pos (by omega)]; rfl)
    (fun k => by simp only [impl_Order_twoTwo.l1]; rw [if_neg (by omega), wrap_ok (by omega) (by omega), nat_succ])
/-- The first two chains that refuse an order are the first four cells that refuse its table. -/
theorem twoTwo_k (m : Nat) (ms : List Nat) (hl : ms.length = m) (hm : m ≤ 6) (hb : ∀ x ∈ ms, x < 2 ^ m) (k : Nat) (hk : 4000 ≤ k) : impl_Order_twoTwo.f k (m : Int) (asInts ms) = some ((four0 m m ms).getD []) := by
  unfold impl_Order_twoTwo.f
  have hn := four_bound m m hm hm
  exact search0 (two_l0 m ms hl (by omega) hb) [] (fun k => by simp only [impl_Order_twoTwo.l0]; rw [if_neg (by omega)]) k (by omega)
theorem four0_some (R C : Nat) (ms : List Nat) (v : List Int) (h : four0 R C ms = some v) : ∃ r c s d : Nat, r < R ∧ c < C ∧ s < R ∧ d < C ∧ v = [(r : Int), (c : Int), (s : Int), (d : Int)] ∧ four ms r c s d = true := by
  unfold four0 at h
  obtain ⟨r, hr, h1⟩ := fs_some _ _ _ h
  unfold four1 at h1
  obtain ⟨c, hc, h2⟩ := fs_some _ _ _ h1
  unfold four2 at h2
  obtain ⟨s, hs, h3⟩ := fs_some _ _ _ h2
  unfold four3 at h3
  obtain ⟨d, hd, h4⟩ := fs_some _ _ _ h3
  unfold four4 at h4
  split at h4
  · rename_i hf
    injection h4 with h4
    exact ⟨r, c, s, d, hr, hc, hs, hd, h4.symm, hf⟩
  · cases h4
theorem tabIs (r c : Nat) (A : List Nat) (h1 : 1 ≤ r) (h2 : r ≤ 6) (h3 : 1 ≤ c) (h4 : c ≤ 6) (hA : A.length = r) (bA : ∀ x ∈ A, x < 2 ^ c) : isTab (r : Int) (c : Int) (A.map (fun (x : Nat) => (x : Int))) = true := (isTab_iff _ _ _).2 ⟨r, c, _, rfl, rfl, rfl, h1, h2, h3, h4, hA, bA⟩
theorem biorder_k (r c : Nat) (A : List Nat) (h1 : 1 ≤ r) (h2 : r ≤ 6) (h3 : 1 ≤ c) (h4 : c ≤ 6) (hA : A.length = r) (bA : ∀ x ∈ A, x < 2 ^ c) (k : Nat) (hk : 4000 ≤ k) : impl_IsBiorder.f k (r : Int) (c : Int) (A.map (fun (x : Nat) => (x : Int))) = some ((four0 r c A).isNone, true) := by
  have p64 : 2 ^ c ≤ 64 := Nat.pow_le_pow_right (n := 2) (by omega) h4
  have A64 : ∀ x ∈ A, x < 64 := fun x hx => Nat.lt_of_lt_of_le (bA x hx) p64
  have lA : (A.map (fun (x : Nat) => (x : Int))).length = r := by simp [hA]
  unfold impl_IsBiorder.f
  rw [IsTable_k _ _ _ (by omega) k (by omega), tabIs r c A h1 h2 h3 h4 hA bA]
  simp only [Option.bind_some, if_true]
  rw [fourCells_k r c A hA h2 h4 A64 k (by omega)]
  simp only [Option.bind_some]
  cases h : four0 r c A with
  | none => rfl
  | some v => rw [Option.getD_some, if_neg (four0_ne r c A v h)]; rfl
theorem fourCells_law (r c : Nat) (A : List Nat) (h1 : 1 ≤ r) (h2 : r ≤ 6) (h3 : 1 ≤ c) (h4 : c ≤ 6) (hA : A.length = r) (bA : ∀ x ∈ A, x < 2 ^ c) (k : Nat) (hk : 4000 ≤ k) : impl_FourCells.f k (r : Int) (c : Int) (A.map (fun (x : Nat) => (x : Int))) = some ((four0 r c A).getD [], (four0 r c A).isSome) := by
  have p64 : 2 ^ c ≤ 64 := Nat.pow_le_pow_right (n := 2) (by omega) h4
  have A64 : ∀ x ∈ A, x < 64 := fun x hx => Nat.lt_of_lt_of_le (bA x hx) p64
  have lA : (A.map (fun (x : Nat) => (x : Int))).length = r := by simp [hA]
  unfold impl_FourCells.f
  rw [IsTable_k _ _ _ (by omega) k (by omega), tabIs r c A h1 h2 h3 h4 hA bA]
  simp only [Option.bind_some, if_true]
  rw [fourCells_k r c A hA h2 h4 A64 k (by omega)]
  simp only [Option.bind_some]
  cases h : four0 r c A with
  | none => rfl
  | some v => rw [Option.getD_some, if_neg (four0_ne r c A v h)]; rfl
theorem interval_k (m : Nat) (ms : List Nat) (hl : ms.length = m) (hm : m ≤ 6) (hb : ∀ x ∈ ms, x < 2 ^ m) (ho : ∀ k, 400 < k → impl_IsOrder.f k (m : Int) (ms.map (fun (x : Nat) => (x : Int))) = some true) (k : Nat) (hk : 4000 ≤ k) : impl_IsIntervalOrder.f k (m : Int) (ms.map (fun (x : Nat) => (x : Int))) = some ((four0 m m ms).isNone, true) := by
  unfold impl_IsIntervalOrder.f impl_isInterval.f
  rw [ho k (by omega)]
  simp only [Option.bind_some, if_true]
  rw [twoTwo_k m ms hl hm hb k (by omega)]
  simp only [Option.bind_some]
  cases h : four0 m m ms with
  | none => rfl
  | some v => rw [Option.getD_some, if_neg (four0_ne m m ms v h)]; rfl
theorem isBetter_k (m : Nat) (ms : List Nat) (hl : ms.length = m) (hm : m ≤ 6) (hb : ∀ x ∈ ms, x < 2 ^ m) (i j : Nat) (hi : i < m) (hj : j < m) (k : Nat) (hk : 400 < k) : impl_IsBetter.f k (m : Int) (ms.map (fun (x : Nat) => (x : Int))) (i : Int) (j : Int) = some (mk ms i j, true) := by
  have lm : (ms.map (fun (x : Nat) => (x : Int))).length = m := by simp [hl]
  have h2 : 2 ^ m ≤ 2 ^ 6 := Nat.pow_le_pow_right (by omega) hm
  have := getD_lt (Nat.two_pow_pos m) hb i
  have hrel : isRel (m : Int) (ms.map (fun (x : Nat) => (x : Int))) = true := (isRel_iff _ _).2 ⟨m, ms, rfl, rfl, by omega, hl, hb⟩
  have hin : allIn [(i : Int), (j : Int)] 0 ((m : Int) - 1) = true := by
    rw [allIn_iff]
    intro x hx
    simp only [List.mem_cons, List.not_mem_nil, or_false] at hx
    omega
  unfold impl_IsBetter.f impl_Order_has.f
  rw [IsRelation_k _ _ (by omega) k (by omega), hrel]
  simp only [Option.bind_some, if_true]
  rw [wrap_ok (by omega) (by omega), allWithin_k _ _ _ (by simp) k (by simp; omega), hin]
  simp only [Option.bind_some, if_true]
  rw [better_k (m : Int) _ i j (ms.getD i 0) (by omega) (rd_map ms i) (by omega) (by omega)]
  rfl
theorem counts_true : ∀ i < 6, ∀ j < 6, ∀ v b, impl_CountBiorders.f 40 ((i : Nat) + 1 : Int) ((j : Nat) + 1 : Int) = some (v, b) → b = true := by
  have h : ∀ i < 6, ∀ j < 6, ((impl_CountBiorders.f 40 ((i : Nat) + 1 : Int) ((j : Nat) + 1 : Int)).map Prod.snd) = some true := by decide +kernel
  intro i hi j hj v b e
  have := h i hi j hj
  rw [e] at this
  simpa using this
/-- The table with number K. -/
def tabK (r c K : Nat) : List Nat := (List.range r).map fun i => K / 2 ^ (i * c) % 2 ^ c
def cntB (r c : Nat) (n : Nat) : Nat := ((List.range n).filter fun K => (bio0 (tabK r c K)).isNone).length
theorem tabK_length (r c K : Nat) : (tabK r c K).length = r := by simp [tabK]
theorem tabK_lt (r c K : Nat) : ∀ x ∈ tabK r c K, x < 2 ^ c := by
  intro x hx
  obtain ⟨i, _, rfl⟩ := List.mem_map.1 hx
  exact Nat.mod_lt _ (Nat.two_pow_pos c)
theorem cntB_succ (r c n : Nat) : cntB r c (n + 1) = cntB r c n + if (bio0 (tabK r c n)).isNone = true then 1 else 0 := by
  unfold cntB
  rw [List.range_succ, List.filter_append, List.length_append]
  congr 1
  cases h : (bio0 (tabK r c n)).isNone <;> simp [h]
theorem cntB_le (r c : Nat) : ∀ n, cntB r c n ≤ n := by
  intro n
  induction n with
  | zero => simp [cntB]
  | succ n ih => rw [cntB_succ]; split <;> omega
theorem counts_small : ∀ i < 6, ∀ j < 6, (i + 1) * (j + 1) ≤ 9 → impl_CountBiorders.f 40 ((i : Nat) + 1 : Int) ((j : Nat) + 1 : Int) = some (((cntB (i + 1) (j + 1) (2 ^ ((i + 1) * (j + 1))) : Nat) : Int), true) := by
  decide +kernel
theorem counts_same : ∀ i < 6, ∀ j < 6, impl_CountBiorders.f 40 ((i : Nat) + 1 : Int) ((j : Nat) + 1 : Int) = spec_CountBiorders.f 40 ((i : Nat) + 1 : Int) ((j : Nat) + 1 : Int) ∧ (impl_CountBiorders.f 40 ((i : Nat) + 1 : Int) ((j : Nat) + 1 : Int)).isSome = true := by
  decide +kernel
theorem byte_wf3 (s : List Int) (h : ∀ x ∈ s, (Lit.int .u8 x).wf = true) : ∀ x ∈ s, 0 ≤ x ∧ x < 256 := by
  intro x hx
  have e : IntKind.u8.min ≤ x ∧ x ≤ IntKind.u8.max := by simpa [Lit.wf] using h x hx
  have m : IntKind.u8.min = 0 := by decide
  have m2 : IntKind.u8.max = 255 := by decide
  omega
theorem least_le2 (a b : Int) : ∃ c, spec_l1Least.f a b = some c ∧ c ≤ b ∧ c ≤ a := by
  unfold spec_l1Least.f
  split
  · exact ⟨a, rfl, by omega, by omega⟩
  · exact ⟨b, rfl, by omega, by omega⟩
theorem element_ok (s : List Int) (hs : s.length ≤ 1048576) (hb : ∀ x ∈ s, 0 ≤ x ∧ x < 256) (p h n : Int) (l : List Int) (h0 : 0 ≤ p) (h1 : p ≤ 700000000) : ∃ v p' h', spec_l1Cur_element.f s p h n l = some (v, p', h') := by
  unfold spec_l1Cur_element.f
  obtain ⟨b, p1, g1, e, e1, e2⟩ := one_ok s hs hb p h 10 h0 (by omega)
  rw [e]
  simp only [Option.bind_some]
  split
  · obtain ⟨v, p2, g2, f, f1, f2⟩ := among_ok s hs hb p1 g1 [(-1), n, 62, 64] (by simp) (by omega) (by omega)
    rw [f]
    exact ⟨_, _, _, rfl⟩
  · obtain ⟨a, q, _⟩ := least_le2 n 10
    rw [q]
    simp only [Option.bind_some]
    have : ∃ c, spec_l1Most.f 1 a = some c := by
      unfold spec_l1Most.f
      split <;> exact ⟨_, rfl⟩
    obtain ⟨c, hc⟩ := this
    obtain ⟨v, p2, g2, f, _⟩ := pick_ok s hs hb p1 g1 c (by omega) (by omega)
    rw [hc]
    simp only [Option.bind_some]
    rw [f]
    exact ⟨_, _, _, rfl⟩
theorem drawToo_l0 (s : List Int) (hs : s.length ≤ 1048576) (hb : ∀ x ∈ s, 0 ≤ x ∧ x < 256) (n : Int) (l : List Int) : ∀ (d k i : Nat) (A B : List Int) (p h : Int), i + d = 12 → d < k → A.length ≤ i → B.length ≤ i → 0 ≤ p → p + 10 * d ≤ 600000000 →
    ∃ A' B', spec_DrawTableOfOrder.l0 k A B (i : Int) s p h n l = some (n, l, A', B') ∧ A'.length ≤ 20 ∧ B'.length ≤ 20 := by
  intro d
  have fin : ∀ (A B : List Int) (p h : Int), A.length ≤ 12 → B.length ≤ 12 → 0 ≤ p → p ≤ 600000000 → ∃ A' B', ((spec_l1Cur_one.f s p h 15).bind fun bt363 => (if bt363.1 = true then ((spec_l1Cur_element.f s bt363.2.1 bt363.2.2 n l).bind fun bt366 => (if A.length < 17592186044416 then (some (n, l, (A ++ [bt366.1]), B)) else (none))) else (some (n, l, A, B)))) = some (n, l, A', B') ∧ A'.length ≤ 20 ∧ B'.length ≤ 20 := by
    intro A B p h hA hB h0 h1
    obtain ⟨b, p1, g1, e, e1, e2⟩ := one_ok s hs hb p h 15 h0 (by omega)
    obtain ⟨v, p2, g2, f⟩ := element_ok s hs hb p1 g1 n l (by omega) (by omega)
    rw [e]
    simp only [Option.bind_some]
    rw [f]
    simp only [Option.bind_some]
    rw [if_pos (show A.length < 17592186044416 by omega)]
    split
    · exact ⟨_, _, rfl, by simp; omega, by omega⟩
    · exact ⟨_, _, rfl, by omega, by omega⟩
  induction d with
  | zero =>
    intro k i A B p h hi hk hA hB h0 h1
    obtain ⟨k, rfl⟩ : ∃ m, k = m + 1 := ⟨k - 1, by omega⟩
    obtain ⟨c, e, e1, e2⟩ := least_le2 n 11
    rw [spec_DrawTableOfOrder.l0, e]
    simp only [Option.bind_some]
    rw [if_neg (by omega)]
    exact fin A B p h (by omega) (by omega) h0 (by omega)
  | succ d ih =>
    intro k i A B p h hi hk hA hB h0 h1
    obtain ⟨k, rfl⟩ : ∃ m, k = m + 1 := ⟨k - 1, by omega⟩
    obtain ⟨c, e, e1, e2⟩ := least_le2 n 11
    rw [spec_DrawTableOfOrder.l0, e]
    simp only [Option.bind_some]
    by_cases hc : (i : Int) < c
    · obtain ⟨b, p1, g1, o, o1, o2⟩ := one_ok s hs hb p h 4 h0 (by omega)
      obtain ⟨b2, p2, g2, q, q1, q2⟩ := one_ok s hs hb p1 g1 4 (by omega) (by omega)
      have lA : A.length < 17592186044416 := by omega
      have lB : B.length < 17592186044416 := by omega
      rw [if_pos hc, o]
      simp only [Option.bind_some]
      rw [q]
      simp only [Option.bind_some, if_pos lA, if_pos lB]
      rw [wrap_ok (by omega) (by omega), show ((i : Int) + 1) = ((i + 1 : Nat) : Int) by omega]
      repeat' split
      all_goals exact ih k (i + 1) _ _ p2 g2 (by omega) (by omega) (by first | omega | (simp only [List.length_append, List.length_cons, List.length_nil]; omega)) (by first | omega | (simp only [List.length_append, List.length_cons, List.length_nil]; omega)) (by omega) (by omega)
    · rw [if_neg hc]
      exact fin A B p h (by omega) (by omega) h0 (by omega)
theorem drawToo_ok (s : List Int) (hs : s.length ≤ 1048576) (hb : ∀ x ∈ s, 0 ≤ x ∧ x < 256) (k : Nat) (hk : 700 < k) : ∃ n l A B, spec_DrawTableOfOrder.f k s = some (n, l, A, B) ∧ l.length ≤ 10 ∧ A.length ≤ 20 ∧ B.length ≤ 20 := by
  unfold spec_DrawTableOfOrder.f
  obtain ⟨n, l, p1, g1, e, e1, e2, e3⟩ := anyOrder_ok s hs hb 0 0 6 (by omega) (by omega) (by omega) (by omega) k (by omega)
  obtain ⟨A, B, f, f1, f2⟩ := drawToo_l0 s hs hb n l 12 k 0 [] [] p1 g1 (by omega) (by omega) (by simp) (by simp) (by omega) (by omega)
  rw [e]
  simp only [Option.bind_some]
  exact ⟨n, l, A, B, f, e1, f1, f2⟩
theorem leO_up {α : Type} (F : Nat → Option α) (h : ∀ k, LeO (F k) (F (k + 1))) (v : α) (k : Nat) (hv : F k = some v) : ∀ d, F (k + d) = some v := by
  intro d
  induction d with
  | zero => exact hv
  | succ d ih => exact h (k + d) v ih
theorem counts_k (i j : Nat) (hi : i < 6) (hj : j < 6) : ∃ v, (∀ k, 40 ≤ k → impl_CountBiorders.f k ((i : Nat) + 1 : Int) ((j : Nat) + 1 : Int) = some (v, true) ∧ spec_CountBiorders.f k ((i : Nat) + 1 : Int) ((j : Nat) + 1 : Int) = some (v, true)) ∧ ((i + 1) * (j + 1) ≤ 9 → v = ((cntB (i + 1) (j + 1) (2 ^ ((i + 1) * (j + 1))) : Nat) : Int)) := by
  -- needs impl_factorial.mono impl_parts.mono spec_feParts.mono
  obtain ⟨h1, h2⟩ := counts_same i hi j hj
  cases hI : impl_CountBiorders.f 40 ((i : Nat) + 1 : Int) ((j : Nat) + 1 : Int) with
  | none => rw [hI] at h2; cases h2
  | some q =>
    obtain ⟨v, b⟩ := q
    have hb : b = true := counts_true i hi j hj v b hI
    subst hb
    refine ⟨v, fun k hk => ?_, fun h9 => ?_⟩
    · obtain ⟨d, rfl⟩ : ∃ d, k = 40 + d := ⟨k - 40, by omega⟩
      exact ⟨leO_up (fun k => impl_CountBiorders.f k ((i : Nat) + 1 : Int) ((j : Nat) + 1 : Int)) (fun k => impl_CountBiorders.mono _ _ k) _ 40 hI d, leO_up (fun k => spec_CountBiorders.f k ((i : Nat) + 1 : Int) ((j : Nat) + 1 : Int)) (fun k => spec_CountBiorders.mono _ _ k) _ 40 (by rw [← h1]; exact hI) d⟩
    · have := counts_small i hi j hj h9
      rw [hI] at this
      simp only [Option.some.injEq, Prod.mk.injEq] at this
      exact this.1
theorem counts_out (a0 a1 : Int) (h : ¬ (1 ≤ a0 ∧ a0 ≤ 6 ∧ 1 ≤ a1 ∧ a1 ≤ 6)) (k : Nat) (hk : 0 < k) : impl_CountBiorders.f k a0 a1 = some (0, false) ∧ spec_CountBiorders.f k a0 a1 = some (0, false) := by
  obtain ⟨k, rfl⟩ : ∃ m, k = m + 1 := ⟨k - 1, by omega⟩
  unfold impl_CountBiorders.f spec_CountBiorders.f
  simp only [within_eq, l1In_eq, Option.bind_some]
  by_cases h0 : 1 ≤ a0 ∧ a0 ≤ 6
  · have h1 : ¬ (1 ≤ a1 ∧ a1 ≤ 6) := fun h1 => h ⟨h0.1, h0.2, h1.1, h1.2⟩
    simp [h0, h1, impl_CountBiorders.j0, spec_CountBiorders.j0]
  · simp [h0, impl_CountBiorders.j0, spec_CountBiorders.j0]
theorem and_mod (x c : Nat) (hx : x < 2 ^ 62) (hc : c ≤ 60) : Go.bits .and .i64 (x : Int) (wrap64 (shl .i64 1 (c : Int) - 1)) = ((x % 2 ^ c : Nat) : Int) := by
  have h2 : 2 ^ c ≤ 2 ^ 60 := Nat.pow_le_pow_right (by omega) hc
  have h3 := Nat.two_pow_pos c
  rw [ones_eq c hc, and_nat _ _ (by omega) (by omega), Nat.and_two_pow_sub_one_eq_mod]
/-- The tables of a size, counted. -/
theorem count_loop (r c : Nat) (h1 : 1 ≤ r) (h2 : r ≤ 6) (h3 : 1 ≤ c) (h4 : c ≤ 6) (h9 : r * c ≤ 9) (v : Int) (hv : v = ((cntB r c (2 ^ (r * c)) : Nat) : Int)) : ∀ (d k K : Nat), K + d = 2 ^ (r * c) → 5000 + d * 20 < k → laws_FnOrdersAsTables.l1 k (r : Int) (c : Int) v ((cntB r c K : Nat) : Int) (K : Int) = some true := by
  have p9 : 2 ^ (r * c) ≤ 2 ^ 9 := Nat.pow_le_pow_right (by omega) h9
  have hw : wrap64 ((r : Int) * (c : Int)) = ((r * c : Nat) : Int) := by
    have e : ((r : Int) * (c : Int)) = ((r * c : Nat) : Int) := by simp
    rw [e, wrap_ok (by omega) (by omega)]
  intro d
  induction d with
  | zero =>
    intro k K hK hk
    obtain ⟨k, rfl⟩ : ∃ m, k = m + 1 := ⟨k - 1, by omega⟩
    have e : K = 2 ^ (r * c) := by omega
    rw [laws_FnOrdersAsTables.l1, hw, if_pos (Int.natCast_nonneg _), shl_one _ (by omega), if_neg (by omega), e, hv]
    simp
  | succ d ih =>
    intro k K hK hk
    obtain ⟨k, rfl⟩ : ∃ m, k = m + 1 := ⟨k - 1, by omega⟩
    have cle := cntB_le r c K
    rw [laws_FnOrdersAsTables.l1, hw, if_pos (Int.natCast_nonneg _), shl_one _ (by omega), if_pos (by omega)]
    have inner : ∀ (e k i : Nat), i + e = r → 5000 + d * 20 + 1 + e < k → laws_FnOrdersAsTables.l2 k (r : Int) (c : Int) v ((cntB r c K : Nat) : Int) (K : Int) (i : Int) (r : Int) (c : Int) (((List.range i).map fun i => K / 2 ^ (i * c) % 2 ^ c).map (fun (x : Nat) => (x : Int))) = some true := by
      intro e
      induction e with
      | zero =>
        intro k i hi hk
        obtain ⟨k, rfl⟩ : ∃ m, k = m + 1 := ⟨k - 1, by omega⟩
        have ei : i = r := by omega
        subst ei
        have hB := biorder_k i c (tabK i c K) h1 h2 h3 h4 (tabK_length i c K) (tabK_lt i c K) k (by omega)
        have hB2 : impl_IsBiorder.f k (i : Int) (c : Int) (((List.range i).map fun i => K / 2 ^ (i * c) % 2 ^ c).map (fun (x : Nat) => (x : Int))) = some ((four0 i c (tabK i c K)).isNone, true) := hB
        have hfb : (four0 i c (tabK i c K)).isNone = (bio0 (tabK i c K)).isNone := by
          rw [Bool.eq_iff_iff, Option.isNone_iff_eq_none, Option.isNone_iff_eq_none]
          exact four_bio i c (tabK i c K) (tabK_length i c K) (tabK_lt i c K)
        have next := ih k (K + 1) (by omega) (by omega)
        rw [cntB_succ] at next
        rw [laws_FnOrdersAsTables.l2, if_neg (by omega), hB2, hfb]
        simp only [Option.bind_some, if_true]
        rw [wrap_ok (x := (K : Int) + 1) (by omega) (by omega), show ((K : Int) + 1) = ((K + 1 : Nat) : Int) by omega, wrap_ok (by omega) (by omega), show (((cntB i c K : Nat) : Int) + 1) = ((cntB i c K + 1 : Nat) : Int) by omega]
        cases hb : (bio0 (tabK i c K)).isNone
        · rw [hb] at next
          rw [if_neg (by simp)]
          simpa using next
        · rw [hb] at next
          rw [if_pos rfl]
          simpa using next
      | succ e ihe =>
        intro k i hi hk
        obtain ⟨k, rfl⟩ : ∃ m, k = m + 1 := ⟨k - 1, by omega⟩
        have next := ihe k (i + 1) (by omega) (by omega)
        rw [List.range_succ, List.map_append, List.map_append] at next
        have hic : i * c ≤ 6 * 6 := Nat.mul_le_mul (by omega) h4
        have e1 : ((i : Int) * (c : Int)) = ((i * c : Nat) : Int) := by simp
        have q1 : K / 2 ^ (i * c) ≤ K := Nat.div_le_self _ _
        rw [laws_FnOrdersAsTables.l2, if_pos (by omega), e1, wrap_ok (x := ((i * c : Nat) : Int)) (by omega) (by omega), if_pos (Int.natCast_nonneg _), if_pos (by omega), if_pos (by simp; omega), shr_nat K (i * c) (by omega), and_mod _ c (by omega) (by omega), wrap_ok (by omega) (by omega), show ((i : Int) + 1) = ((i + 1 : Nat) : Int) by omega]
        exact next
    exact inner r k 0 (by omega) (by omega)
theorem law_j4 (l1 : List Int) (hl1 : l1.length ≤ 1048576) (b1 : ∀ x ∈ l1, 0 ≤ x ∧ x < 256) (k : Nat) (hk : 16000 < k) : laws_FnOrdersAsTables.j4 k l1 = some true := by
  obtain ⟨k, rfl⟩ : ∃ m, k = m + 3 := ⟨k - 3, by omega⟩
  obtain ⟨a, p1, g1, e, _⟩ := among_ok l1 hl1 b1 0 0 [1, 2, 3, 4, 6, 7, 0] (by simp) (by omega) (by omega)
  obtain ⟨b, p2, g2, f, _⟩ := among_ok l1 hl1 b1 p1 g1 [1, 2, 3, 4, 6, 7, 0] (by simp) (by omega) (by omega)
  rw [laws_FnOrdersAsTables.j4]
  unfold spec_DrawCountBiorders.f
  rw [e]
  simp only [Option.bind_some]
  rw [f]
  simp only [Option.bind_some]
  by_cases h : 1 ≤ a ∧ a ≤ 6 ∧ 1 ≤ b ∧ b ≤ 6
  · obtain ⟨i, ei⟩ : ∃ i : Nat, a = (i : Int) + 1 := ⟨(a - 1).toNat, by omega⟩
    obtain ⟨j, ej⟩ : ∃ j : Nat, b = (j : Int) + 1 := ⟨(b - 1).toNat, by omega⟩
    subst ei
    subst ej
    obtain ⟨v, h1, h2⟩ := counts_k i j (by omega) (by omega)
    rw [(h1 (k + 2) (by omega)).1, (h1 (k + 2) (by omega)).2]
    simp only [Option.bind_some, bne_self_eq_false, Bool.false_eq_true, if_false]
    rw [laws_FnOrdersAsTables.j5]
    simp only [Bool.false_eq_true, if_false, if_true]
    have e1 : (i : Int) + 1 = ((i + 1 : Nat) : Int) := by omega
    have e2 : (j : Int) + 1 = ((j + 1 : Nat) : Int) := by omega
    have hrc : (i + 1) * (j + 1) ≤ 6 * 6 := Nat.mul_le_mul (by omega) (by omega)
    have e3 : wrap64 (((i + 1 : Nat) : Int) * ((j + 1 : Nat) : Int)) = (((i + 1) * (j + 1) : Nat) : Int) := by
      have e : (((i + 1 : Nat) : Int) * ((j + 1 : Nat) : Int)) = (((i + 1) * (j + 1) : Nat) : Int) := by simp
      rw [e, wrap_ok (by omega) (by omega)]
    rw [e1, e2, e3, laws_FnOrdersAsTables.j6]
    by_cases h9 : (i + 1) * (j + 1) ≤ 9
    · rw [decide_eq_true (by omega), if_pos rfl]
      have hp9 : 2 ^ ((i + 1) * (j + 1)) ≤ 2 ^ 9 := Nat.pow_le_pow_right (by omega) h9
      have := count_loop (i + 1) (j + 1) (by omega) (by omega) (by omega) (by omega) h9 v (h2 h9) (2 ^ ((i + 1) * (j + 1))) k 0 (by omega) (by omega)
      exact this
    · rw [decide_eq_false (by omega), if_neg (by simp)]
  · rw [(counts_out a b h (k + 2) (by omega)).1, (counts_out a b h (k + 2) (by omega)).2]
    simp only [Option.bind_some, bne_self_eq_false, Bool.false_eq_true, if_false]
    rw [laws_FnOrdersAsTables.j5]
    simp only [Bool.false_eq_true, if_false]
    rw [laws_FnOrdersAsTables.j6]
    simp
theorem range_getD (m j : Nat) (hj : j < m) : (List.range m).getD j 0 = j := by
  rw [List.getD_eq_getElem?_getD, List.getElem?_range hj]
  rfl
theorem iota_in (m : Nat) : allIn ((List.range m).map (fun (x : Nat) => (x : Int))) 0 ((m : Int) - 1) = true ∧ Rising ((List.range m).map (fun (x : Nat) => (x : Int))) := by
  constructor
  · rw [allIn_iff]
    intro x hx
    obtain ⟨y, hy, rfl⟩ := List.mem_map.1 hx
    have := List.mem_range.1 hy
    omega
  · intro j h1 hj
    have hj2 : j < m := by simpa using hj
    simp only [List.getD_eq_getElem?_getD, List.getElem?_map]
    rw [List.getElem?_range (show j - 1 < m by omega), List.getElem?_range hj2]
    simp
    omega
theorem whole_rows (m : Nat) (ms : List Nat) (hl : ms.length = m) (hb : ∀ x ∈ ms, x < 2 ^ m) : relList m m (ooP ms (List.range m) (List.range m)) = ms.map (fun (x : Nat) => (x : Int)) := by
  rw [relList_congr (p' := fun r c => mk ms r c && mk ms r c) (fun i j hi hj => by unfold ooP mk; rw [range_getD m i hi, range_getD m j hj, Bool.and_self])]
  exact meet_sub m m ms ms hl hb (fun i j _ h => h)
theorem FnOrdersAsTables : laws_FnOrdersAsTables.Pure := by
  intro l0 l1 _ _ hb0 _ _ hb1
  have b0 := byte_wf3 l0 hb0
  have b1 := byte_wf3 l1 hb1
  by_cases hbig : (l0.length : Int) > 1048576
  · refine ⟨1, ?_⟩
    unfold laws_FnOrdersAsTables.f laws_big.f
    rw [if_pos hbig]
    rfl
  by_cases hbig2 : (l1.length : Int) > (wrap64 (1048576 - (l0.length : Int)))
  · refine ⟨1, ?_⟩
    unfold laws_FnOrdersAsTables.f laws_big.f
    rw [if_neg hbig, decide_eq_true hbig2]
    rfl
  have hl1 : l1.length ≤ 1048576 := by
    rw [wrap_ok (by omega) (by omega)] at hbig2
    omega
  obtain ⟨K, hK⟩ : ∃ K, 17000 < K := ⟨20000, by omega⟩
  refine ⟨K + 1, ?_⟩
  obtain ⟨n, l, A, B, hD, hl, hA, hB⟩ := drawToo_ok l0 (by omega) b0 (K + 1) (by omega)
  obtain ⟨a, b, y, z, hy, hI, hS, hz⟩ := tableOfOrder_both n l A B (by omega) (by omega) (by omega)
  unfold laws_FnOrdersAsTables.f laws_big.f
  rw [if_neg hbig, decide_eq_false hbig2]
  simp only [Option.bind_some, Bool.false_eq_true, if_false]
  rw [hD]
  simp only [Option.bind_some]
  rw [hI _ (by omega), hS _ (by omega)]
  simp only [Option.bind_some, bne_self_eq_false, Bool.false_eq_true, if_false]
  rw [vTable_k a b y (by omega) (K + 1) (by omega)]
  simp only [Option.bind_some, Bool.not_true]
  rw [laws_FnOrdersAsTables.j0]
  simp only [Bool.false_eq_true, if_false]
  obtain ⟨K, rfl⟩ : ∃ m, K = m + 1 := ⟨K - 1, by omega⟩
  cases z
  · simp only [Bool.false_eq_true, if_false]
    rw [laws_FnOrdersAsTables.j1]
    simp only [Bool.false_eq_true, if_false]
    exact law_j4 l1 hl1 b1 K (by omega)
  simp only [if_true]
  obtain ⟨m, ms, rfl, rfl, h1, h2, h3, hord, hm1⟩ := hz rfl
  rw [laws_FnOrdersAsTables.j1]
  by_cases h6 : m ≤ 6
  case neg =>
    rw [decide_eq_false (by omega), if_neg (by simp)]
    exact law_j4 l1 hl1 b1 K (by omega)
  rw [decide_eq_true (by omega), if_pos rfl]
  have lm : (ms.map (fun (x : Nat) => (x : Int))).length = m := by simp [h2]
  have hrel : isRel (m : Int) (ms.map (fun (x : Nat) => (x : Int))) = true := (isRel_iff _ _).2 ⟨m, ms, rfl, rfl, h1, h2, h3⟩
  have ho : ∀ k, 400 < k → impl_IsOrder.f k (m : Int) (ms.map (fun (x : Nat) => (x : Int))) = some true := by
    intro k hk
    unfold impl_IsOrder.f
    rw [IsRelation_k _ _ (by omega) k (by omega), hrel, lm]
    have := impl_IsOrder_l0 m h1 ms h2 h3 m k 0 (by omega) (by omega)
    rw [hord] at this
    exact this
  have main : ∀ (d k i : Nat), i + d = m → 16500 + d < k → laws_FnOrdersAsTables.l0 k l1 ((List.range i).map (fun (x : Nat) => (x : Int))) (i : Int) (m : Int) (ms.map (fun (x : Nat) => (x : Int))) = some true := by
    intro d
    induction d with
    | succ d ih =>
      intro k i hi hk
      obtain ⟨k, rfl⟩ : ∃ m, k = m + 1 := ⟨k - 1, by omega⟩
      have next := ih k (i + 1) (by omega) (by omega)
      rw [List.range_succ, List.map_append] at next
      rw [laws_FnOrdersAsTables.l0, if_pos (by omega), if_pos (by simp; omega), wrap_ok (by omega) (by omega), show ((i : Int) + 1) = ((i + 1 : Nat) : Int) by omega]
      exact next
    | zero =>
      intro k i hi hk
      obtain ⟨k, rfl⟩ : ∃ m, k = m + 2 := ⟨k - 2, by omega⟩
      have ei : i = m := by omega
      subst ei
      have hT := tableOfOrder_yes i h1 ms (List.range i) (List.range i) h2 h3 (fun j hj => by rw [range_getD i j (by simpa using hj)]; simpa using hj) (fun j hj => by rw [range_getD i j (by simpa using hj)]; simpa using hj) (by simp; omega) (by simp; omega) (iota_in i) (iota_in i) ho (k + 1) (by omega)
      have el : (List.range i).length = i := List.length_range
      rw [el, whole_rows i ms h2 h3] at hT
      rw [laws_FnOrdersAsTables.l0, if_neg (by omega), hT]
      simp only [Option.bind_some]
      rw [biorder_k i i ms hm1 h6 hm1 h6 h2 h3 (k + 1) (by omega), fourCells_law i i ms hm1 h6 hm1 h6 h2 h3 (k + 1) (by omega), interval_k i ms h2 h6 h3 ho (k + 1) (by omega)]
      simp only [Option.bind_some, if_true, bne_self_eq_false]
      cases h4 : four0 i i ms with
      | none =>
        have e0 : ((none : Option (List Int)).isNone == (none : Option (List Int)).isSome) = false := rfl
        simp only [e0, Bool.false_eq_true, if_false]
        rw [laws_FnOrdersAsTables.j3]
        simp only [Option.isSome_none, Bool.false_eq_true, if_false]
        exact law_j4 l1 hl1 b1 k (by omega)
      | some v =>
        obtain ⟨r, c, s, d, hr, hc, hs, hd, rfl, hf⟩ := four0_some i i ms v h4
        unfold four at hf
        simp only [Bool.and_eq_true, Bool.not_eq_true'] at hf
        obtain ⟨⟨⟨f1, f2⟩, f3⟩, f4⟩ := hf
        simp only [Option.getD_some, Option.isSome_some, Option.isNone_some, show (false == true) = false from rfl, Bool.false_eq_true, if_false]
        rw [laws_FnOrdersAsTables.j3]
        have g0 : rd [(r : Int), (c : Int), (s : Int), (d : Int)] 0 = (r : Int) := rfl
        have g1 : rd [(r : Int), (c : Int), (s : Int), (d : Int)] 1 = (c : Int) := rfl
        have g2 : rd [(r : Int), (c : Int), (s : Int), (d : Int)] 2 = (s : Int) := rfl
        have g3 : rd [(r : Int), (c : Int), (s : Int), (d : Int)] 3 = (d : Int) := rfl
        have gl : (([(r : Int), (c : Int), (s : Int), (d : Int)] : List Int).length : Int) = 4 := rfl
        have c0 : (0 : Int) < 4 := by omega
        have c1 : (1 : Int) < 4 := by omega
        have c2 : (2 : Int) < 4 := by omega
        have c3 : (3 : Int) < 4 := by omega
        simp only [g0, g1, g2, g3, gl, if_pos c0, if_pos c1, if_pos c2, if_pos c3, Bool.false_eq_true, if_false, if_true]
        rw [isBetter_k i ms h2 h6 h3 r c hr hc k (by omega), isBetter_k i ms h2 h6 h3 s d hs hd k (by omega), isBetter_k i ms h2 h6 h3 r d hr hd k (by omega), isBetter_k i ms h2 h6 h3 s c hs hc k (by omega), f1, f2, f3, f4]
        simp only [Option.bind_some, Bool.false_eq_true, if_false, if_true]
        exact law_j4 l1 hl1 b1 k (by omega)
  exact main m K 0 (by omega) (by omega)

end Go.Proofs.YtpippjgphndjmaaDoor.Pure
