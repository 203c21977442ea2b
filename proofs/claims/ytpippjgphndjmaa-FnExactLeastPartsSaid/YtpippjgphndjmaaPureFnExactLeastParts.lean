/- LeastParts: the program returns for every table the least number of parts that the reference returns; no condition. -/
import Derived.Test.YtpippjgphndjmaaPFnExactLeastPartsx7
namespace Go.Proofs.Ytpippjgphndjmaa.Pure
open Go.RowKit Go.Proofs.Ytpippjgphndjmaa.PFnExactLeastParts Go.Proofs.YtpippjgphndjmaaW.PrintWords Go.Proofs.YtpippjgphndjmaaW.PrintLast Go.Proofs.YtpippjgphndjmaaW.PrintMore
set_option linter.unusedVariables false
set_option linter.unusedSimpArgs false

theorem wrap_ok {x : Int} (h0 : -9223372036854775808 ≤ x) (h1 : x < 9223372036854775808) : wrap64 x = x := by unfold wrap64; omega
theorem rd_nat (l : List Int) (i : Nat) : rd l (i : Int) = l.getD i 0 := by simp [rd]

theorem toIntS_l0 (l : List Int) (hl : l.length ≤ 4611686018427387904) : ∀ (d k i : Nat) (x : List Int), i + d = l.length → d < k → x.length = l.length → (∀ j, j < i → x[j]? = l[j]?) → laws_toIntS.l0 k l x (i : Int) = some l := by
  intro d
  induction d with
  | zero =>
    intro k i x h hk hx hj
    obtain ⟨k, rfl⟩ : ∃ m, k = m + 1 := ⟨k - 1, by omega⟩
    simp only [laws_toIntS.l0]
    rw [if_neg (by omega)]
    congr 1
    apply List.ext_getElem?
    intro j
    by_cases hji : j < i
    · exact hj j hji
    · rw [List.getElem?_eq_none (by omega), List.getElem?_eq_none (by omega)]
  | succ d ih =>
    intro k i x h hk hx hj
    obtain ⟨k, rfl⟩ : ∃ m, k = m + 1 := ⟨k - 1, by omega⟩
    simp only [laws_toIntS.l0]
    rw [if_pos (by omega), if_pos (by omega), if_pos (by omega), wrap_ok (by omega) (by omega)]
    have e : ((i : Int) + 1) = ((i + 1 : Nat) : Int) := by omega
    rw [e]
    refine ih k (i + 1) _ (by omega) (by omega) (by simpa using hx) ?_
    intro j hji
    have e2 : (i : Int).toNat = i := by omega
    rw [e2, List.getElem?_set]
    by_cases hj2 : i = j
    · subst hj2
      rw [if_pos rfl, if_pos (by omega), rd_nat, List.getElem?_eq_getElem (by omega)]
      simp
      rw [List.getElem?_eq_getElem (by omega)]
      rfl
    · rw [if_neg hj2]
      exact hj j (by omega)
theorem toIntS_k (l : List Int) (hl : l.length ≤ 1048576) (k : Nat) (hk : l.length < k) : laws_toIntS.f k l = some l := by
  unfold laws_toIntS.f
  rw [if_pos (by omega), if_pos (by omega)]
  exact toIntS_l0 l (by omega) l.length k 0 _ (by omega) hk (by simp) (by intro j hj; omega)
theorem eqIntS_l0 (l : List Int) (hl : l.length ≤ 4611686018427387904) : ∀ (d k i : Nat), i + d = l.length → d < k → laws_eqIntS.l0 k l l (i : Int) = some true := by
  intro d
  induction d with
  | zero =>
    intro k i h hk
    obtain ⟨k, rfl⟩ : ∃ m, k = m + 1 := ⟨k - 1, by omega⟩
    simp only [laws_eqIntS.l0]
    rw [if_neg (by omega)]
  | succ d ih =>
    intro k i h hk
    obtain ⟨k, rfl⟩ : ∃ m, k = m + 1 := ⟨k - 1, by omega⟩
    simp only [laws_eqIntS.l0]
    rw [if_pos (by omega), if_pos (by omega), if_pos (by omega), if_true, wrap_ok (by omega) (by omega)]
    have e : ((i : Int) + 1) = ((i + 1 : Nat) : Int) := by omega
    rw [e]
    exact ih k (i + 1) (by omega) (by omega)
theorem eqIntS_k (l : List Int) (hl : l.length ≤ 4611686018427387904) (k : Nat) (hk : l.length < k) : laws_eqIntS.f k l l = some true := by
  unfold laws_eqIntS.f
  rw [if_pos rfl]
  exact eqIntS_l0 l hl l.length k 0 (by omega) hk
theorem within_eq (a b c : Int) : impl_within.f a b c = some (decide (b ≤ a ∧ a ≤ c)) := by
  unfold impl_within.f
  by_cases h : a ≥ b <;> simp [h] <;> omega
theorem l1In_eq (a b c : Int) : spec_l1In.f a b c = some (decide (b ≤ a ∧ a ≤ c)) := by
  unfold spec_l1In.f
  by_cases h : a ≥ b <;> simp [h] <;> omega

def allIn (l : List Int) (a b : Int) : Bool := l.all fun x => decide (a ≤ x ∧ x ≤ b)
theorem getD_drop (l : List Int) (i : Nat) (h : i < l.length) : l.drop i = l.getD i 0 :: l.drop (i + 1) := by
  rw [List.drop_eq_getElem_cons h]
  simp [h]
theorem allWithin_l0 (l : List Int) (a b : Int) (hl : l.length ≤ 4611686018427387904) : ∀ (d k i : Nat), i + d = l.length → d < k → impl_allWithin.l0 k a b l (l.length : Int) (i : Int) = some (allIn (l.drop i) a b) := by
  intro d
  induction d with
  | zero =>
    intro k i h hk
    obtain ⟨k, rfl⟩ : ∃ m, k = m + 1 := ⟨k - 1, by omega⟩
    simp only [impl_allWithin.l0]
    rw [if_neg (by omega), List.drop_eq_nil_of_le (by omega)]
    rfl
  | succ d ih =>
    intro k i h hk
    obtain ⟨k, rfl⟩ : ∃ m, k = m + 1 := ⟨k - 1, by omega⟩
    simp only [impl_allWithin.l0]
    rw [if_pos (by omega), if_pos (by omega), if_pos (by omega), wrap_ok (by omega) (by omega), within_eq, getD_drop l i (by omega), rd_nat]
    have e : ((i : Int) + 1) = ((i + 1 : Nat) : Int) := by omega
    rw [e, ih k (i + 1) (by omega) (by omega)]
    simp only [Option.bind_some, allIn, List.all_cons]
    cases decide (a ≤ l.getD i 0 ∧ l.getD i 0 ≤ b) <;> simp
theorem allWithin_k (l : List Int) (a b : Int) (hl : l.length ≤ 4611686018427387904) (k : Nat) (hk : l.length < k) : impl_allWithin.f k l a b = some (allIn l a b) := by
  unfold impl_allWithin.f
  exact allWithin_l0 l a b hl l.length k 0 (by omega) hk
theorem l1All_l0 (l : List Int) (a b : Int) (hl : l.length ≤ 4611686018427387904) : ∀ (d k i : Nat), i + d = l.length → d < k → spec_l1All.l0 k a b l (l.length : Int) (i : Int) = some (allIn (l.drop i) a b) := by
  intro d
  induction d with
  | zero =>
    intro k i h hk
    obtain ⟨k, rfl⟩ : ∃ m, k = m + 1 := ⟨k - 1, by omega⟩
    simp only [spec_l1All.l0]
    rw [if_neg (by omega), List.drop_eq_nil_of_le (by omega)]
    rfl
  | succ d ih =>
    intro k i h hk
    obtain ⟨k, rfl⟩ : ∃ m, k = m + 1 := ⟨k - 1, by omega⟩
    simp only [spec_l1All.l0]
    rw [if_pos (by omega), if_pos (by omega), if_pos (by omega), wrap_ok (by omega) (by omega), l1In_eq, getD_drop l i (by omega), rd_nat]
    have e : ((i : Int) + 1) = ((i + 1 : Nat) : Int) := by omega
    rw [e, ih k (i + 1) (by omega) (by omega)]
    simp only [Option.bind_some, allIn, List.all_cons]
    cases decide (a ≤ l.getD i 0 ∧ l.getD i 0 ≤ b) <;> simp
theorem l1All_k (l : List Int) (a b : Int) (hl : l.length ≤ 4611686018427387904) (k : Nat) (hk : l.length < k) : spec_l1All.f k l a b = some (allIn l a b) := by
  unfold spec_l1All.f
  exact l1All_l0 l a b hl l.length k 0 (by omega) hk

def isTab (R C : Int) (M : List Int) : Bool := decide (1 ≤ R ∧ R ≤ 6) && decide (1 ≤ C ∧ C ≤ 6) && decide ((M.length : Int) = R) && allIn M 0 (wrap64 (shl .i64 1 C - 1))
theorem IsTable_k (R C : Int) (M : List Int) (hM : M.length ≤ 4611686018427387904) (k : Nat) (hk : M.length < k) : impl_IsTable.f k R C M = some (isTab R C M) := by
  unfold impl_IsTable.f isTab
  simp only [within_eq, Option.bind_some]
  by_cases h1 : 1 ≤ R ∧ R ≤ 6
  · by_cases h2 : 1 ≤ C ∧ C ≤ 6
    · by_cases h3 : (M.length : Int) = R
      · rw [if_pos h3, if_pos (show 0 ≤ C by omega), allWithin_k M _ _ hM k hk]
        simp [h1, h2, h3]
      · rw [if_neg h3]
        simp [h1, h2, h3]
    · simp [h1, h2]
  · simp [h1]
theorem feGood_k (R C : Int) (M : List Int) (hM : M.length ≤ 4611686018427387904) (k : Nat) (hk : M.length < k) : spec_feGood.f k R C M = some (isTab R C M) := by
  unfold spec_feGood.f isTab
  simp only [l1In_eq, Option.bind_some]
  by_cases h1 : 1 ≤ R ∧ R ≤ 6
  · by_cases h2 : 1 ≤ C ∧ C ≤ 6
    · by_cases h3 : (M.length : Int) = R
      · rw [if_pos h3, if_pos (show 0 ≤ C by omega), l1All_k M _ _ hM k hk]
        simp [h1, h2, h3]
      · rw [if_neg h3]
        simp [h1, h2, h3]
    · simp [h1, h2]
  · simp [h1]
theorem toTable_k (R C : Int) (M : List Int) (hM : M.length ≤ 1048576) (k : Nat) (hk : M.length < k) : laws_toTable.f k R C M = some (R, C, M) := by
  unfold laws_toTable.f
  rw [toIntS_k M hM k hk]
  rfl
theorem eqTable_k (R C : Int) (M : List Int) (hM : M.length ≤ 1048576) (k : Nat) (hk : M.length < k) : laws_eqTable.f k R C M R C M = some true := by
  unfold laws_eqTable.f
  rw [if_pos rfl, if_pos rfl, eqIntS_k M (by omega) k hk]
  rfl
theorem szTable_eq (R C : Int) (M : List Int) (hm : M.length ≤ maxLen) : laws_szTable.f R C M 1048576 = some (if M.length ≤ 1048576 then 1048576 - (M.length : Int) else -1) := by
  unfold maxLen at hm
  unfold laws_szTable.f laws_szIntS.f
  rw [wrap_ok (by omega) (by omega)]
  by_cases h : M.length ≤ 1048576
  · rw [if_neg (by omega), if_pos h]
    simp only [Option.bind_some]
    rw [if_neg (by omega)]
  · rw [if_pos (by omega), if_neg h]
    simp

/-! Sets as numbers. -/
def andn (a b : Nat) : Nat := a ^^^ (a &&& b)
theorem andn_bit (a b i : Nat) : (andn a b).testBit i = (a.testBit i && !b.testBit i) := by
  unfold andn
  rw [Nat.testBit_xor, Nat.testBit_and]
  cases a.testBit i <;> cases b.testBit i <;> rfl
theorem wrap_i64_nat (n : Nat) (h : n < 2 ^ 63) : IntKind.i64.wrap (n : Int) = (n : Int) := by
  rw [IntKind.wrap_i64]
  have : (n : Int) < 9223372036854775808 := by omega
  omega
theorem ofInt_toNat (n : Nat) (h : n < 2 ^ 63) : (BitVec.ofInt 64 (n : Int)).toNat = n := by
  rw [BitVec.ofInt_natCast, BitVec.toNat_ofNat, Nat.mod_eq_of_lt (by omega)]
theorem and_nat (a b : Nat) (ha : a < 2 ^ 63) (hb : b < 2 ^ 63) : Go.bits .and .i64 (a : Int) (b : Int) = ((a &&& b : Nat) : Int) := by
  unfold Go.bits
  show IntKind.i64.wrap ((BitVec.ofInt 64 (a : Int) &&& BitVec.ofInt 64 (b : Int)).toNat : Int) = _
  rw [BitVec.toNat_and, ofInt_toNat a ha, ofInt_toNat b hb]
  exact wrap_i64_nat _ (Nat.lt_of_le_of_lt Nat.and_le_left ha)
theorem or_nat (a b : Nat) (ha : a < 2 ^ 63) (hb : b < 2 ^ 63) : Go.bits .or .i64 (a : Int) (b : Int) = ((a ||| b : Nat) : Int) := by
  unfold Go.bits
  show IntKind.i64.wrap ((BitVec.ofInt 64 (a : Int) ||| BitVec.ofInt 64 (b : Int)).toNat : Int) = _
  rw [BitVec.toNat_or, ofInt_toNat a ha, ofInt_toNat b hb]
  exact wrap_i64_nat _ (Nat.or_lt_two_pow ha hb)
theorem andn_le (a b : Nat) : andn a b ≤ a := Nat.le_of_testBit fun i h => by
  rw [andn_bit] at h
  cases h1 : a.testBit i
  · simp [h1] at h
  · rfl
theorem andNot_nat (a b : Nat) (ha : a < 2 ^ 63) (hb : b < 2 ^ 63) : Go.bits .andNot .i64 (a : Int) (b : Int) = ((andn a b : Nat) : Int) := by
  unfold Go.bits
  show IntKind.i64.wrap ((BitVec.ofInt 64 (a : Int) &&& ~~~ BitVec.ofInt 64 (b : Int)).toNat : Int) = _
  have e : (BitVec.ofInt 64 (a : Int) &&& ~~~ BitVec.ofInt 64 (b : Int)).toNat = andn a b := by
    apply Nat.eq_of_testBit_eq
    intro i
    rw [andn_bit, BitVec.toNat_and, Nat.testBit_and, ofInt_toNat a ha, BitVec.testBit_toNat, BitVec.getLsbD_not, BitVec.ofInt_natCast, BitVec.getLsbD_ofNat]
    by_cases hi : i < 64
    · rw [decide_eq_true hi]
      simp only [Bool.true_and]
    · have : a.testBit i = false := Nat.testBit_lt_two_pow (Nat.lt_of_lt_of_le ha (Nat.pow_le_pow_right (by omega) (by omega)))
      simp [this]
  rw [e]
  exact wrap_i64_nat _ (Nat.lt_of_le_of_lt (andn_le a b) ha)
theorem andn_zero (a b : Nat) : andn a b = 0 ↔ ∀ i, a.testBit i = true → b.testBit i = true := by
  constructor
  · intro h i hi
    have := andn_bit a b i
    rw [h, hi] at this
    cases hb : b.testBit i
    · simp [hb] at this
    · rfl
  · intro h
    apply Nat.eq_of_testBit_eq
    intro i
    rw [andn_bit]
    cases ha : a.testBit i
    · simp
    · simp [h i ha]
def bitsum (q : Nat → Bool) : Nat → Nat
  | 0 => 0
  | j + 1 => bitsum q j ||| (if q j then 2 ^ j else 0)
theorem shl_one (j : Nat) (h : j < 62) : shl .i64 1 (j : Int) = ((2 ^ j : Nat) : Int) := by
  unfold shl
  have e : min (j : Int).toNat IntKind.i64.bits = j := by
    show min (j : Int).toNat 64 = j
    omega
  rw [e]
  have e2 : (1 : Int) * 2 ^ j = ((2 ^ j : Nat) : Int) := by simp
  rw [e2]
  exact wrap_i64_nat _ (Nat.pow_lt_pow_right (by omega) (by omega))
theorem or_shl (a j : Nat) (ha : a < 2 ^ 62) (hj : j < 62) : Go.bits .or .i64 (a : Int) (shl .i64 1 (j : Int)) = ((a ||| 2 ^ j : Nat) : Int) := by
  rw [shl_one j hj]
  exact or_nat a _ (Nat.lt_of_lt_of_le ha (by decide)) (Nat.pow_lt_pow_right (by omega) (by omega))
def part (R C : Nat) (p : Nat → Nat → Bool) (i j : Nat) : List Int := (List.range R).map fun r => if r < i then ((bitsum (p r) C : Nat) : Int) else if r = i then ((bitsum (p r) j : Nat) : Int) else 0
theorem allIn_iff (l : List Int) (a b : Int) : allIn l a b = true ↔ ∀ x ∈ l, a ≤ x ∧ x ≤ b := by
  unfold allIn
  rw [List.all_eq_true]
  simp
theorem isTab_iff (R C : Int) (M : List Int) : isTab R C M = true ↔ ∃ (r c : Nat) (ms : List Nat), R = (r : Int) ∧ C = (c : Int) ∧ M = ms.map (fun (x : Nat) => (x : Int)) ∧ 1 ≤ r ∧ r ≤ 6 ∧ 1 ≤ c ∧ c ≤ 6 ∧ ms.length = r ∧ ∀ x ∈ ms, x < 2 ^ c := by
  unfold isTab
  simp only [Bool.and_eq_true, decide_eq_true_eq, allIn_iff]
  constructor
  · rintro ⟨⟨⟨h1, h2⟩, h3⟩, h4⟩
    have ec : C = ((C.toNat : Nat) : Int) := by omega
    have e5 : wrap64 (shl .i64 1 C - 1) = ((2 ^ C.toNat - 1 : Nat) : Int) := by
      rw [ec, shl_one C.toNat (by omega)]
      have hp : 0 < 2 ^ C.toNat := Nat.two_pow_pos _
      have hq : 2 ^ C.toNat ≤ 2 ^ 6 := Nat.pow_le_pow_right (by omega) (by omega)
      have e6 : (((C.toNat : Nat) : Int)).toNat = C.toNat := by omega
      rw [e6, wrap_ok (by omega) (by omega)]
      omega
    rw [e5] at h4
    refine ⟨R.toNat, C.toNat, M.map Int.toNat, by omega, ec, ?_, by omega, by omega, by omega, by omega, by simp; omega, ?_⟩
    · rw [List.map_map]
      conv => lhs; rw [← List.map_id M]
      apply List.map_congr_left
      intro x hx
      have := h4 x hx
      show x = ((x.toNat : Nat) : Int)
      omega
    · intro x hx
      obtain ⟨y, hy, rfl⟩ := List.mem_map.1 hx
      have := h4 y hy
      have hp : 0 < 2 ^ C.toNat := Nat.two_pow_pos _
      omega
  · rintro ⟨r, c, ms, rfl, rfl, rfl, h1, h2, h3, h4, h5, h6⟩
    have hp : 0 < 2 ^ c := Nat.two_pow_pos _
    have hq : 2 ^ c ≤ 2 ^ 6 := Nat.pow_le_pow_right (by omega) (by omega)
    have e5 : wrap64 (shl .i64 1 (c : Int) - 1) = ((2 ^ c - 1 : Nat) : Int) := by
      rw [shl_one c (by omega), wrap_ok (by omega) (by omega)]
      omega
    refine ⟨⟨⟨by omega, by omega⟩, by simp; omega⟩, ?_⟩
    intro x hx
    obtain ⟨y, hy, rfl⟩ := List.mem_map.1 hx
    have := h6 y hy
    rw [e5]
    omega
def mk (ms : List Nat) (r c : Nat) : Bool := (ms.getD r 0).testBit c
theorem rd_map (ms : List Nat) (i : Nat) : rd (ms.map (fun (x : Nat) => (x : Int))) (i : Int) = ((ms.getD i 0 : Nat) : Int) := by
  rw [rd_nat]
  simp only [List.getD_eq_getElem?_getD, List.getElem?_map]
  cases ms[i]? <;> simp
theorem getD_lt {ms : List Nat} {b : Nat} (hb : 0 < b) (h : ∀ x ∈ ms, x < b) (i : Nat) : ms.getD i 0 < b := by
  rw [List.getD_eq_getElem?_getD]
  cases hx : ms[i]? with
  | none => simpa using hb
  | some x => exact h x (List.mem_of_getElem? hx)
theorem shr_nat (x c : Nat) (hc : c < 64) : shr .i64 (x : Int) (c : Int) = ((x / 2 ^ c : Nat) : Int) := by
  unfold shr
  have e : min (c : Int).toNat IntKind.i64.bits = c := by
    show min (c : Int).toNat 64 = c
    omega
  rw [e]
  simp
theorem bit_and (x c : Nat) (hx : x < 2 ^ 63) (hc : c < 64) : (Go.bits .and .i64 (shr .i64 (x : Int) (c : Int)) 1 == 1) = x.testBit c := by
  rw [shr_nat x c hc]
  have h1 : x / 2 ^ c < 2 ^ 63 := Nat.lt_of_le_of_lt (Nat.div_le_self _ _) hx
  have e : Go.bits .and .i64 ((x / 2 ^ c : Nat) : Int) 1 = ((x / 2 ^ c &&& 1 : Nat) : Int) := and_nat _ 1 h1 (by decide)
  rw [e, Nat.and_one_is_mod]
  have e2 : x.testBit c = decide (x / 2 ^ c % 2 = 1) := Nat.testBit_eq_decide_div_mod_eq
  rw [e2]
  by_cases h : x / 2 ^ c % 2 = 1
  · simp [h]
  · have : x / 2 ^ c % 2 = 0 := by omega
    simp [this]
theorem marked_k (R C : Int) (ms : List Nat) (r c : Nat) (hb : ∀ x ∈ ms, x < 64) (hr : r < ms.length) (hc : c < 60) : impl_Table_marked.f R C (ms.map (fun (x : Nat) => (x : Int))) (r : Int) (c : Int) = some (mk ms r c) := by
  unfold impl_Table_marked.f mk
  have := getD_lt (b := 64) (by omega) hb r
  rw [if_pos (by omega), if_pos (by simpa using hr), if_pos (by omega), rd_map, bit_and _ c (by omega) (by omega)]

theorem tmod_nat (n : Nat) : Int.tmod (n : Int) 2 = ((n % 2 : Nat) : Int) := by
  rw [Int.tmod_eq_emod_of_nonneg (by omega)]
  omega
theorem orHas_k (x i : Nat) (hi : i < 64) : spec_orHas.f (x : Int) (i : Int) = some (x.testBit i) := by
  unfold spec_orHas.f
  rw [if_pos (by omega), shr_nat x i hi, tmod_nat]
  have e2 : x.testBit i = decide (x / 2 ^ i % 2 = 1) := Nat.testBit_eq_decide_div_mod_eq
  rw [e2]
  congr 1
  by_cases h : x / 2 ^ i % 2 = 1
  · simp [h]
  · have : x / 2 ^ i % 2 = 0 := by omega
    simp [this]

theorem wrap_small (n : Nat) (h : n < 1000) : wrap64 (n : Int) = (n : Int) := wrap_ok (by omega) (by omega)

def befTo (C : Nat) (ms cs : List Nat) (r : Nat) : Nat → Nat
  | 0 => 0
  | i + 1 => if mk ms r (cs.getD i 0 % C) = true then befTo C ms cs r i ||| 2 ^ (cs.getD i 0 / C) else befTo C ms cs r i
theorem cs_row (R C : Nat) (cs : List Nat) (hcs : ∀ c ∈ cs, c < R * C) (i : Nat) (hi : i < cs.length) : cs.getD i 0 / C < R := by
  apply Nat.div_lt_of_lt_mul
  rw [Nat.mul_comm, List.getD_eq_getElem?_getD, List.getElem?_eq_getElem hi]
  exact hcs _ (List.getElem_mem hi)
theorem befTo_lt (R C : Nat) (ms cs : List Nat) (hcs : ∀ c ∈ cs, c < R * C) (r : Nat) : ∀ i, i ≤ cs.length → befTo C ms cs r i < 2 ^ R := by
  intro i
  induction i with
  | zero => intro _; exact Nat.two_pow_pos _
  | succ i ih =>
    intro hi
    rw [befTo]
    split
    · exact Nat.or_lt_two_pow (ih (by omega)) (Nat.pow_lt_pow_right (by omega) (cs_row R C cs hcs i (by omega)))
    · exact ih (by omega)
theorem befTo_bit (C : Nat) (ms cs : List Nat) (r i s : Nat) : (befTo C ms cs r i).testBit s = true ↔ ∃ j, j < i ∧ cs.getD j 0 / C = s ∧ mk ms r (cs.getD j 0 % C) = true := by
  induction i with
  | zero => simp [befTo]
  | succ i ih =>
    rw [befTo]
    cases hm : mk ms r (cs.getD i 0 % C)
    · rw [if_neg (by simp), ih]
      constructor
      · rintro ⟨j, h1, h2⟩
        exact ⟨j, by omega, h2⟩
      · rintro ⟨j, h1, h2, h3⟩
        by_cases e : j = i
        · subst e
          rw [hm] at h3
          cases h3
        · exact ⟨j, by omega, h2, h3⟩
    · rw [if_pos rfl, Nat.testBit_or, Bool.or_eq_true, ih, Nat.testBit_two_pow, decide_eq_true_eq]
      constructor
      · rintro (⟨j, h1, h2⟩ | h)
        · exact ⟨j, by omega, h2⟩
        · exact ⟨i, by omega, h, hm⟩
      · rintro ⟨j, h1, h2, h3⟩
        by_cases e : j = i
        · subst e
          exact Or.inr h2
        · exact Or.inl ⟨j, by omega, h2, h3⟩
def befPart (R C : Nat) (ms cs : List Nat) (i r : Nat) : List Int := (List.range R).map fun q => if q < r then ((befTo C ms cs q (i + 1) : Nat) : Int) else ((befTo C ms cs q i : Nat) : Int)
theorem befPart_length (R C : Nat) (ms cs : List Nat) (i r : Nat) : (befPart R C ms cs i r).length = R := by simp [befPart]
theorem befPart_start (R C : Nat) (ms cs : List Nat) : List.replicate R 0 = befPart R C ms cs 0 0 := by
  apply List.ext_getElem?
  intro r
  by_cases h : r < R
  · simp [befPart, h, List.getElem?_replicate, befTo]
  · rw [List.getElem?_eq_none (by simp; omega), List.getElem?_eq_none (by rw [befPart_length]; omega)]
theorem befPart_next (R C : Nat) (ms cs : List Nat) (i : Nat) : befPart R C ms cs i R = befPart R C ms cs (i + 1) 0 := by
  unfold befPart
  apply List.map_congr_left
  intro q hq
  rw [if_pos (by simpa using hq), if_neg (by omega)]
theorem befPart_rd (R C : Nat) (ms cs : List Nat) (i r : Nat) (hr : r < R) : rd (befPart R C ms cs i r) (r : Int) = ((befTo C ms cs r i : Nat) : Int) := by
  rw [rd_nat]
  simp [befPart, List.getD_eq_getElem?_getD, hr]
theorem befPart_skip (R C : Nat) (ms cs : List Nat) (i r : Nat) (hm : mk ms r (cs.getD i 0 % C) = false) : befPart R C ms cs i r = befPart R C ms cs i (r + 1) := by
  unfold befPart
  apply List.map_congr_left
  intro q _
  by_cases h : q < r
  · rw [if_pos h, if_pos (by omega)]
  · rw [if_neg h]
    by_cases e : q = r
    · subst e
      rw [if_pos (by omega), befTo, hm, if_neg (by simp)]
    · rw [if_neg (by omega)]
theorem befPart_set (R C : Nat) (ms cs : List Nat) (i r : Nat) (hm : mk ms r (cs.getD i 0 % C) = true) : (befPart R C ms cs i r).set r ((befTo C ms cs r i ||| 2 ^ (cs.getD i 0 / C) : Nat) : Int) = befPart R C ms cs i (r + 1) := by
  apply List.ext_getElem?
  intro q
  by_cases h : q < R
  · rw [List.getElem?_set]
    simp only [befPart, List.getElem?_map, List.getElem?_range h, Option.map_some, List.length_map, List.length_range]
    by_cases e : r = q
    · subst e
      rw [if_pos rfl, if_pos h, if_pos (by omega), befTo, if_pos hm]
    · rw [if_neg e]
      by_cases h1 : q < r
      · rw [if_pos h1, if_pos (by omega)]
      · rw [if_neg h1, if_neg (by omega)]
  · rw [List.getElem?_eq_none (by simp [befPart_length]; omega), List.getElem?_eq_none (by rw [befPart_length]; omega)]
theorem freeOrder_l0 (R C : Nat) (ms cs : List Nat) (hR : ms.length = R) (hR6 : R ≤ 6) (hC0 : 1 ≤ C) (hC : C ≤ 6) (hb : ∀ x ∈ ms, x < 64) (hcs : ∀ c ∈ cs, c < R * C) (hl : cs.length ≤ 1048576) (W : List Int) (K : Nat)
    (hW : ∀ k, K ≤ k → impl_Table_freeOrder.l2 k (befPart R C ms cs cs.length 0) [] 0 (R : Int) (C : Int) (ms.map (fun (x : Nat) => (x : Int))) = some W) : ∀ (d k i : Nat), i + d = cs.length → K + d * (R + 2) < k →
    impl_Table_freeOrder.l0 k (befPart R C ms cs i 0) (cs.map (fun (x : Nat) => (x : Int))) (cs.length : Int) (i : Int) (R : Int) (C : Int) (ms.map (fun (x : Nat) => (x : Int))) = some W := by
  intro d
  induction d with
  | zero =>
    intro k i hi hk
    obtain ⟨k, rfl⟩ : ∃ m, k = m + 1 := ⟨k - 1, by omega⟩
    simp only [impl_Table_freeOrder.l0]
    have e : i = cs.length := by omega
    rw [if_neg (by omega), e]
    exact hW k (by omega)
  | succ d ih =>
    intro k i hi hk
    rw [Nat.succ_mul] at hk
    obtain ⟨k, rfl⟩ : ∃ m, k = m + 1 := ⟨k - 1, by omega⟩
    simp only [impl_Table_freeOrder.l0]
    have lc : ((cs.map (fun (x : Nat) => (x : Int))).length : Int) = (cs.length : Int) := by simp
    have hrow := cs_row R C cs hcs i (by omega)
    have hcol : cs.getD i 0 % C < C := Nat.mod_lt _ (by omega)
    rw [if_pos (by omega), if_pos (by omega), if_pos (by omega), rd_map]
    have inner : ∀ (e k r : Nat), r + e = R → K + d * (R + 2) + 1 + e < k → impl_Table_freeOrder.l1 k (befPart R C ms cs i r) ((cs.getD i 0 : Nat) : Int) (cs.map (fun (x : Nat) => (x : Int))) (cs.length : Int) (i : Int) (R : Int) (r : Int) (R : Int) (C : Int) (ms.map (fun (x : Nat) => (x : Int))) = some W := by
      intro e
      induction e with
      | zero =>
        intro k r hr hk
        obtain ⟨k, rfl⟩ : ∃ m, k = m + 1 := ⟨k - 1, by omega⟩
        simp only [impl_Table_freeOrder.l1]
        have e2 : r = R := by omega
        subst e2
        rw [if_neg (by omega), wrap_ok (by omega) (by omega), show ((i : Int) + 1) = ((i + 1 : Nat) : Int) by omega, befPart_next]
        exact ih k (i + 1) (by omega) (by omega)
      | succ e ihe =>
        intro k r hr hk
        obtain ⟨k, rfl⟩ : ∃ m, k = m + 1 := ⟨k - 1, by omega⟩
        simp only [impl_Table_freeOrder.l1]
        have next := ihe k (r + 1) (by omega) (by omega)
        have t1 : Int.tmod ((cs.getD i 0 : Nat) : Int) (C : Int) = ((cs.getD i 0 % C : Nat) : Int) := rfl
        have t2 : Int.tdiv ((cs.getD i 0 : Nat) : Int) (C : Int) = ((cs.getD i 0 / C : Nat) : Int) := rfl
        have b1 := befTo_lt R C ms cs hcs r i (by omega)
        have b2 : 2 ^ R ≤ 2 ^ 6 := Nat.pow_le_pow_right (by omega) hR6
        have e3 : (r : Int).toNat = r := by omega
        rw [if_pos (by omega), if_neg (by omega), t1, marked_k (R : Int) (C : Int) ms r _ hb (by omega) (by omega), t2, wrap_small _ (Nat.lt_of_lt_of_le hrow (by omega)), wrap_ok (x := (r : Int) + 1) (by omega) (by omega), show ((r : Int) + 1) = ((r + 1 : Nat) : Int) by omega, e3]
        simp only [Option.bind_some]
        cases hm : mk ms r (cs.getD i 0 % C)
        · rw [if_neg (by simp), befPart_skip R C ms cs i r hm]
          exact next
        · rw [if_pos rfl, if_pos (by omega), befPart_length, if_pos (by omega), if_pos (Int.natCast_nonneg _), befPart_rd R C ms cs i r (by omega), or_shl _ _ (by omega) (Nat.lt_of_lt_of_le hrow (by omega)), befPart_set R C ms cs i r hm]
          exact next
    exact inner R k 0 (by omega) (by omega)
def ready (C : Nat) (ms cs out : List Nat) (r : Nat) : Bool := !out.contains r && (List.range' 0 cs.length).all fun j => !mk ms r (cs.getD j 0 % C) || out.contains (cs.getD j 0 / C)
def pick (R C : Nat) (ms cs out : List Nat) : Option Nat := (List.range' 0 R).find? (ready C ms cs out)
def orderFrom (R C : Nat) (ms cs : List Nat) : Nat → List Nat → Option (List Nat)
  | 0, out => some out
  | d + 1, out => (pick R C ms cs out).bind fun r => orderFrom R C ms cs d (out ++ [r])
theorem orderFrom_length (R C : Nat) (ms cs : List Nat) : ∀ d out l, orderFrom R C ms cs d out = some l → l.length = out.length + d := by
  intro d
  induction d with
  | zero =>
    intro out l h
    simp only [orderFrom, Option.some.injEq] at h
    rw [← h]
    rfl
  | succ d ih =>
    intro out l h
    simp only [orderFrom] at h
    cases hp : pick R C ms cs out with
    | none => simp [hp] at h
    | some r =>
      rw [hp] at h
      have := ih _ l h
      rw [this]
      simp
      omega
theorem pick_lt {R C : Nat} {ms cs out : List Nat} {r : Nat} (h : pick R C ms cs out = some r) : r < R := by
  have := List.mem_of_find?_eq_some h
  rw [List.mem_range'] at this
  obtain ⟨i, hi, e⟩ := this
  omega
theorem ready_iff (C : Nat) (ms cs out : List Nat) (r set : Nat) (hset : ∀ s, set.testBit s = out.contains s) : ready C ms cs out r = true ↔ set.testBit r = false ∧ andn (befTo C ms cs r cs.length) set = 0 := by
  unfold ready
  rw [Bool.and_eq_true, List.all_eq_true, andn_zero, hset r]
  constructor
  · rintro ⟨h1, h2⟩
    refine ⟨by simpa using h1, fun s hs => ?_⟩
    obtain ⟨j, hj, e1, e2⟩ := (befTo_bit C ms cs r cs.length s).1 hs
    have := h2 j (by rw [List.mem_range']; exact ⟨j, hj, by omega⟩)
    rw [e2, e1] at this
    rw [hset]
    simpa using this
  · rintro ⟨h1, h2⟩
    refine ⟨by rw [h1]; rfl, fun j hj => ?_⟩
    rw [List.mem_range'] at hj
    obtain ⟨i, hi, e⟩ := hj
    have ei : j = i := by omega
    subst ei
    cases hm : mk ms r (cs.getD j 0 % C)
    · simp
    · have := h2 (cs.getD j 0 / C) ((befTo_bit C ms cs r cs.length _).2 ⟨j, hi, rfl, hm⟩)
      rw [hset] at this
      rw [this, Bool.or_true]
theorem set_lt {R set : Nat} {out : List Nat} (hset : ∀ s, set.testBit s = out.contains s) (ho : ∀ s ∈ out, s < R) : set < 2 ^ R := by
  apply Nat.lt_pow_two_of_testBit
  intro i hi
  rw [hset]
  cases h : out.contains i
  · rfl
  · have := ho i (by simpa using h)
    omega
theorem set_add {set r : Nat} {out : List Nat} (hset : ∀ s, set.testBit s = out.contains s) : ∀ s, (set ||| 2 ^ r).testBit s = (out ++ [r]).contains s := by
  intro s
  rw [Nat.testBit_or, hset, Nat.testBit_two_pow]
  by_cases h : r = s
  · subst h
    simp
  · have : ¬ s = r := fun e => h e.symm
    simp [h, this]
theorem freeOrder_l3 (R C : Nat) (ms cs : List Nat) (hR6 : R ≤ 6) (hcs : ∀ c ∈ cs, c < R * C) (M : List Int) (out : List Nat) (set : Nat) (hset : ∀ s, set.testBit s = out.contains s) (ho : ∀ s ∈ out, s < R) (hol : out.length ≤ 6) (K : Nat) (W : List Int) : ∀ (d k r : Nat), r + d = R → K + d < k →
    ((List.range' r d).find? (ready C ms cs out) = none → W = []) →
    (∀ q, (List.range' r d).find? (ready C ms cs out) = some q → ∀ k', K ≤ k' → impl_Table_freeOrder.l2 k' (befPart R C ms cs cs.length 0) ((out ++ [q]).map (fun (x : Nat) => (x : Int))) ((set ||| 2 ^ q : Nat) : Int) (R : Int) (C : Int) M = some W) →
    impl_Table_freeOrder.l3 k (befPart R C ms cs cs.length 0) (out.map (fun (x : Nat) => (x : Int))) (set : Int) (r : Int) (R : Int) (C : Int) M = some W := by
  intro d
  have hs := set_lt hset ho
  have b2 : 2 ^ R ≤ 2 ^ 6 := Nat.pow_le_pow_right (by omega) hR6
  induction d with
  | zero =>
    intro k r hr hk h0 _
    obtain ⟨k, rfl⟩ : ∃ m, k = m + 1 := ⟨k - 1, by omega⟩
    simp only [impl_Table_freeOrder.l3]
    rw [if_neg (by omega), if_pos (by omega), h0 (by simp)]
  | succ d ih =>
    intro k r hr hk h0 hc
    obtain ⟨k, rfl⟩ : ∃ m, k = m + 1 := ⟨k - 1, by omega⟩
    simp only [impl_Table_freeOrder.l3]
    rw [List.range'_succ, List.find?_cons] at h0
    have b1 := befTo_lt R C ms cs hcs r cs.length (by omega)
    have hrd : rd (befPart R C ms cs cs.length 0) (r : Int) = ((befTo C ms cs r cs.length : Nat) : Int) := by
      rw [rd_nat]
      simp [befPart, List.getD_eq_getElem?_getD, show r < R by omega]
    have hbit : (Go.bits .and .i64 (shr .i64 (set : Int) (r : Int)) 1 = 1) ↔ set.testBit r = true := by
      rw [← bit_and set r (by omega) (by omega), beq_iff_eq]
    have he : ((r : Int) + 1) = ((r + 1 : Nat) : Int) := by omega
    have rest : ready C ms cs out r = false → impl_Table_freeOrder.l3 k (befPart R C ms cs cs.length 0) (out.map (fun (x : Nat) => (x : Int))) (set : Int) ((r + 1 : Nat) : Int) (R : Int) (C : Int) M = some W := by
      intro hf
      rw [hf] at h0
      refine ih k (r + 1) (by omega) (by omega) h0 fun q hq => hc q ?_
      rw [List.range'_succ, List.find?_cons, hf]
      exact hq
    rw [if_pos (by omega), if_pos (by omega)]
    by_cases hb : set.testBit r = true
    · rw [if_pos (hbit.2 hb), wrap_ok (by omega) (by omega), he]
      apply rest
      cases hy : ready C ms cs out r
      · rfl
      · have := ((ready_iff C ms cs out r set hset).1 hy).1
        rw [hb] at this
        cases this
    · rw [if_neg (fun h => hb (hbit.1 h)), befPart_length, if_pos (by omega), hrd, andNot_nat _ _ (by omega) (by omega), wrap_ok (by omega) (by omega), he]
      by_cases ha : andn (befTo C ms cs r cs.length) set = 0
      · have hy : ready C ms cs out r = true := (ready_iff C ms cs out r set hset).2 ⟨by simpa using hb, ha⟩
        rw [if_pos (by omega), if_neg (by omega), if_pos (by simp; omega), or_shl set r (by omega) (by omega)]
        have := hc r (by rw [List.range'_succ, List.find?_cons, hy]) k (by omega)
        simpa using this
      · rw [if_neg (by omega)]
        apply rest
        cases hy : ready C ms cs out r
        · rfl
        · exact absurd ((ready_iff C ms cs out r set hset).1 hy).2 ha
theorem freeOrder_l2 (R C : Nat) (ms cs : List Nat) (hR0 : 1 ≤ R) (hR6 : R ≤ 6) (hcs : ∀ c ∈ cs, c < R * C) (M : List Int) : ∀ (d k : Nat) (out : List Nat) (set : Nat), out.length + d = R → (∀ s, set.testBit s = out.contains s) → (∀ s ∈ out, s < R) → d * (R + 3) < k →
    impl_Table_freeOrder.l2 k (befPart R C ms cs cs.length 0) (out.map (fun (x : Nat) => (x : Int))) (set : Int) (R : Int) (C : Int) M = some (((orderFrom R C ms cs d out).getD []).map (fun (x : Nat) => (x : Int))) := by
  intro d
  induction d with
  | zero =>
    intro k out set hd hset ho hk
    obtain ⟨k, rfl⟩ : ∃ m, k = m + 1 := ⟨k - 1, by omega⟩
    simp only [impl_Table_freeOrder.l2, orderFrom]
    have hne : ¬ (out.map (fun (x : Nat) => (x : Int))) = [] := by
      intro h
      have := congrArg List.length h
      simp at this
      rw [this] at hd
      simp at hd
      omega
    rw [if_neg (by simp; omega), if_neg hne]
    rfl
  | succ d ih =>
    intro k out set hd hset ho hk
    rw [Nat.succ_mul] at hk
    obtain ⟨k, rfl⟩ : ∃ m, k = m + 1 := ⟨k - 1, by omega⟩
    simp only [impl_Table_freeOrder.l2]
    rw [if_pos (by simp; omega)]
    refine freeOrder_l3 R C ms cs hR6 hcs M out set hset ho (by omega) (d * (R + 3) + 1) _ R k 0 (by omega) (by omega) ?_ ?_
    · intro h
      have hp : pick R C ms cs out = none := h
      simp only [orderFrom, hp]
      rfl
    · intro q hq k' hk'
      have hp : pick R C ms cs out = some q := hq
      simp only [orderFrom, hp, Option.bind_some]
      refine ih k' (out ++ [q]) _ (by simp; omega) (set_add hset) ?_ (by omega)
      intro s hs
      rcases List.mem_append.1 hs with h1 | h1
      · exact ho s h1
      · have : s = q := by simpa using h1
        rw [this]
        exact pick_lt hp
theorem freeOrder_k (R C : Nat) (ms cs : List Nat) (hR : ms.length = R) (hR0 : 1 ≤ R) (hR6 : R ≤ 6) (hC0 : 1 ≤ C) (hC : C ≤ 6) (hb : ∀ x ∈ ms, x < 64) (hcs : ∀ c ∈ cs, c < R * C) (hl : cs.length ≤ 1048576) (k : Nat) (hk : 8 * cs.length + 60 < k) :
    impl_Table_freeOrder.f k (R : Int) (C : Int) (ms.map (fun (x : Nat) => (x : Int))) (cs.map (fun (x : Nat) => (x : Int))) = some (((orderFrom R C ms cs R []).getD []).map (fun (x : Nat) => (x : Int))) := by
  unfold impl_Table_freeOrder.f
  have e : ((R : Int)).toNat = R := by omega
  have lc : ((cs.map (fun (x : Nat) => (x : Int))).length : Int) = (cs.length : Int) := by simp
  have h1 : cs.length * (R + 2) ≤ cs.length * 8 := Nat.mul_le_mul_left _ (by omega)
  have h2 : R * (R + 3) ≤ 6 * 9 := Nat.mul_le_mul hR6 (by omega)
  rw [if_pos (by omega), if_pos (by omega), e, befPart_start R C ms cs, lc]
  refine freeOrder_l0 R C ms cs hR hR6 hC0 hC hb hcs hl _ 55 (fun k hk => ?_) cs.length k 0 (by omega) (by omega)
  exact freeOrder_l2 R C ms cs hR0 hR6 hcs _ R k [] 0 (by simp) (by simp) (by simp) (by omega)
/-! The reference's. -/
theorem l1Has_l0 (l : List Nat) (s : Nat) (hl : l.length ≤ 1048576) : ∀ (d k i : Nat), i + d = l.length → d < k → spec_l1Has.l0 k (s : Int) (l.map (fun (x : Nat) => (x : Int))) (l.length : Int) (i : Int) = some ((l.drop i).contains s) := by
  intro d
  induction d with
  | zero =>
    intro k i hi hk
    obtain ⟨k, rfl⟩ : ∃ m, k = m + 1 := ⟨k - 1, by omega⟩
    simp only [spec_l1Has.l0]
    rw [if_neg (by omega), List.drop_eq_nil_of_le (by omega)]
    rfl
  | succ d ih =>
    intro k i hi hk
    obtain ⟨k, rfl⟩ : ∃ m, k = m + 1 := ⟨k - 1, by omega⟩
    simp only [spec_l1Has.l0]
    have lc : ((l.map (fun (x : Nat) => (x : Int))).length : Int) = (l.length : Int) := by simp
    have ed : l.drop i = l.getD i 0 :: l.drop (i + 1) := by
      rw [List.drop_eq_getElem_cons (by omega)]
      simp [show i < l.length by omega]
    rw [if_pos (by omega), if_pos (by omega), if_pos (by omega), rd_map, wrap_ok (by omega) (by omega), show ((i : Int) + 1) = ((i + 1 : Nat) : Int) by omega, ih k (i + 1) (by omega) (by omega), ed, List.contains_cons]
    by_cases h : l.getD i 0 = s
    · rw [if_pos (by omega), h]
      simp
    · rw [if_neg (by omega)]
      have h2 : (s == l.getD i 0) = false := by
        rw [beq_eq_false_iff_ne]
        exact fun e => h e.symm
      rw [h2, Bool.false_or]
theorem l1Has_k (l : List Nat) (s : Nat) (hl : l.length ≤ 1048576) (k : Nat) (hk : l.length < k) : spec_l1Has.f k (l.map (fun (x : Nat) => (x : Int))) (s : Int) = some (l.contains s) := by
  unfold spec_l1Has.f
  have := l1Has_l0 l s hl l.length k 0 (by omega) hk
  have lc : ((l.map (fun (x : Nat) => (x : Int))).length : Int) = (l.length : Int) := by simp
  rw [lc]
  exact this
def lets (C : Nat) (ms cs out : List Nat) (r j : Nat) : Bool := !mk ms r (cs.getD j 0 % C) || out.contains (cs.getD j 0 / C)
def enc : Option Nat → Int
  | none => -1
  | some r => (r : Int)
theorem feOrder_l2 (R C : Nat) (ms cs : List Nat) (hR : ms.length = R) (hR6 : R ≤ 6) (hC0 : 1 ≤ C) (hC : C ≤ 6) (hb : ∀ x ∈ ms, x < 64) (hcs : ∀ c ∈ cs, c < R * C) (hl : cs.length ≤ 1048576) (out : List Nat) (hol : out.length ≤ 6) (K : Nat) (W : List Int × Bool) (nx : Int) (r : Nat) (hr : r < R) : ∀ (d k j : Nat) (g : Bool), j + d = cs.length → K + d + 7 < k →
    (∀ k', K ≤ k' → spec_feOrder.l1 k' (cs.map (fun (x : Nat) => (x : Int))) (out.map (fun (x : Nat) => (x : Int))) (if (g && (List.range' j d).all (lets C ms cs out r)) = true then (r : Int) else nx) ((r : Int) - 1) (R : Int) (C : Int) (ms.map (fun (x : Nat) => (x : Int))) = some W) →
    spec_feOrder.l2 k (cs.map (fun (x : Nat) => (x : Int))) (out.map (fun (x : Nat) => (x : Int))) nx (r : Int) g (cs.map (fun (x : Nat) => (x : Int))) (cs.length : Int) (j : Int) (R : Int) (C : Int) (ms.map (fun (x : Nat) => (x : Int))) = some W := by
  intro d
  induction d with
  | zero =>
    intro k j g hj hk hW
    obtain ⟨k, rfl⟩ : ∃ m, k = m + 1 := ⟨k - 1, by omega⟩
    simp only [spec_feOrder.l2]
    have := hW k (by omega)
    simp only [List.range'_zero, List.all_nil, Bool.and_true] at this
    rw [if_neg (by omega), wrap_ok (by omega) (by omega)]
    cases g
    · rw [if_neg (by simp)]
      simpa using this
    · rw [if_pos rfl]
      simpa using this
  | succ d ih =>
    intro k j g hj hk hW
    obtain ⟨k, rfl⟩ : ∃ m, k = m + 1 := ⟨k - 1, by omega⟩
    simp only [spec_feOrder.l2]
    rw [List.range'_succ, List.all_cons, ← Bool.and_assoc] at hW
    have next := ih k (j + 1) (g && lets C ms cs out r j) (by omega) (by omega) hW
    have lc : ((cs.map (fun (x : Nat) => (x : Int))).length : Int) = (cs.length : Int) := by simp
    have lm : ((ms.map (fun (x : Nat) => (x : Int))).length : Int) = (R : Int) := by simp [hR]
    have hrow := cs_row R C cs hcs j (by omega)
    have hcol : cs.getD j 0 % C < C := Nat.mod_lt _ (by omega)
    have t1 : Int.tmod ((cs.getD j 0 : Nat) : Int) (C : Int) = ((cs.getD j 0 % C : Nat) : Int) := rfl
    have t2 : Int.tdiv ((cs.getD j 0 : Nat) : Int) (C : Int) = ((cs.getD j 0 / C : Nat) : Int) := rfl
    have em : (ms.getD r 0).testBit (cs.getD j 0 % C) = mk ms r (cs.getD j 0 % C) := rfl
    rw [if_pos (by omega), if_pos (by omega), if_pos (by omega), rd_map, t1, t2, if_neg (by omega), wrap_small _ (Nat.lt_of_lt_of_le hrow (by omega)), l1Has_k out _ (by omega) k (by omega), wrap_ok (x := (j : Int) + 1) (by omega) (by omega), show ((j : Int) + 1) = ((j + 1 : Nat) : Int) by omega, if_pos (by omega), if_pos (by omega), rd_map, orHas_k _ _ (by omega), em]
    simp only [Option.bind_some]
    unfold lets at next
    cases h1 : out.contains (cs.getD j 0 / C)
    · rw [if_neg (by simp)]
      rw [h1, Bool.or_false] at next
      cases h2 : mk ms r (cs.getD j 0 % C)
      · rw [if_neg (by simp)]
        rw [h2] at next
        simpa using next
      · rw [if_pos rfl]
        rw [h2] at next
        simpa using next
    · rw [if_pos rfl]
      rw [h1, Bool.or_true, Bool.and_true] at next
      exact next
theorem ready_eq (C : Nat) (ms cs out : List Nat) (r : Nat) : ready C ms cs out r = (!out.contains r && (List.range' 0 cs.length).all (lets C ms cs out r)) := rfl
theorem feOrder_l1 (R C : Nat) (ms cs : List Nat) (hR : ms.length = R) (hR6 : R ≤ 6) (hC0 : 1 ≤ C) (hC : C ≤ 6) (hb : ∀ x ∈ ms, x < 64) (hcs : ∀ c ∈ cs, c < R * C) (hl : cs.length ≤ 1048576) (out : List Nat) (hol : out.length ≤ 6) (K : Nat) (W : List Int × Bool)
    (h0 : pick R C ms cs out = none → W = ([], false)) (h1 : ∀ q, pick R C ms cs out = some q → ∀ k', K ≤ k' → spec_feOrder.l0 k' (cs.map (fun (x : Nat) => (x : Int))) ((out ++ [q]).map (fun (x : Nat) => (x : Int))) (R : Int) (C : Int) (ms.map (fun (x : Nat) => (x : Int))) = some W) : ∀ (j k : Nat), j ≤ R → K + j * (cs.length + 12) + 1 < k →
    spec_feOrder.l1 k (cs.map (fun (x : Nat) => (x : Int))) (out.map (fun (x : Nat) => (x : Int))) (enc ((List.range' j (R - j)).find? (ready C ms cs out))) ((j : Int) - 1) (R : Int) (C : Int) (ms.map (fun (x : Nat) => (x : Int))) = some W := by
  intro j
  induction j with
  | zero =>
    intro k hj hk
    obtain ⟨k, rfl⟩ : ∃ m, k = m + 1 := ⟨k - 1, by omega⟩
    simp only [spec_feOrder.l1]
    have e : (List.range' 0 (R - 0)).find? (ready C ms cs out) = pick R C ms cs out := rfl
    rw [if_neg (by omega), e]
    cases hp : pick R C ms cs out with
    | none =>
      rw [if_pos (by simp [enc]), h0 hp]
    | some q =>
      have := h1 q hp k (by omega)
      rw [if_neg (by simp only [enc]; omega), if_pos (by simp; omega)]
      simpa [enc] using this
  | succ j ih =>
    intro k hj hk
    rw [Nat.succ_mul] at hk
    obtain ⟨k, rfl⟩ : ∃ m, k = m + 1 := ⟨k - 1, by omega⟩
    simp only [spec_feOrder.l1]
    have ej : (((j + 1 : Nat) : Int) - 1) = (j : Int) := by omega
    have er : R - j = (R - (j + 1)) + 1 := by omega
    have goal := fun (k : Nat) (hk : K + j * (cs.length + 12) + 1 < k) => ih k (by omega) hk
    rw [er, List.range'_succ, List.find?_cons] at goal
    rw [ej, if_pos (by omega), l1Has_k out _ (by omega) k (by omega), wrap_ok (by omega) (by omega)]
    simp only [Option.bind_some]
    cases hc : out.contains j
    · rw [if_neg (by simp)]
      have lc : ((cs.map (fun (x : Nat) => (x : Int))).length : Int) = (cs.length : Int) := by simp
      rw [lc]
      refine feOrder_l2 R C ms cs hR hR6 hC0 hC hb hcs hl out hol (K + j * (cs.length + 12) + 2) W _ j (by omega) cs.length k 0 true (by omega) (by omega) ?_
      intro k' hk'
      have g := goal k' (by omega)
      rw [ready_eq, hc] at g
      cases ha : (List.range' 0 cs.length).all (lets C ms cs out j)
      · rw [ha] at g
        simpa using g
      · rw [ha] at g
        simpa [enc] using g
    · rw [if_pos rfl]
      have g := goal k (by omega)
      rw [ready_eq, hc] at g
      simpa using g
theorem feOrder_l0 (R C : Nat) (ms cs : List Nat) (hR : ms.length = R) (hR6 : R ≤ 6) (hC0 : 1 ≤ C) (hC : C ≤ 6) (hb : ∀ x ∈ ms, x < 64) (hcs : ∀ c ∈ cs, c < R * C) (hl : cs.length ≤ 1048576) : ∀ (d k : Nat) (out : List Nat), out.length + d = R → d * (6 * (cs.length + 12) + 4) < k →
    spec_feOrder.l0 k (cs.map (fun (x : Nat) => (x : Int))) (out.map (fun (x : Nat) => (x : Int))) (R : Int) (C : Int) (ms.map (fun (x : Nat) => (x : Int))) = some (match orderFrom R C ms cs d out with | none => ([], false) | some l => (l.map (fun (x : Nat) => (x : Int)), true)) := by
  intro d
  induction d with
  | zero =>
    intro k out hd hk
    obtain ⟨k, rfl⟩ : ∃ m, k = m + 1 := ⟨k - 1, by omega⟩
    simp only [spec_feOrder.l0, orderFrom]
    rw [if_neg (by simp; omega)]
  | succ d ih =>
    intro k out hd hk
    rw [Nat.succ_mul] at hk
    obtain ⟨k, rfl⟩ : ∃ m, k = m + 1 := ⟨k - 1, by omega⟩
    simp only [spec_feOrder.l0]
    have hm : R * (cs.length + 12) ≤ 6 * (cs.length + 12) := Nat.mul_le_mul_right _ hR6
    rw [if_pos (by simp; omega), wrap_ok (by omega) (by omega)]
    have L := feOrder_l1 R C ms cs hR hR6 hC0 hC hb hcs hl out (by omega) (d * (6 * (cs.length + 12) + 4) + 1) (match orderFrom R C ms cs (d + 1) out with | none => ([], false) | some l => (l.map (fun (x : Nat) => (x : Int)), true))
      (fun hp => by simp [orderFrom, hp])
      (fun q hp k' hk' => by
        simp only [orderFrom, hp, Option.bind_some]
        exact ih k' (out ++ [q]) (by simp; omega) (by omega)) R k (by omega) (by omega)
    have e : R - R = 0 := by omega
    rw [e] at L
    exact L
theorem feOrder_k (R C : Nat) (ms cs : List Nat) (hR : ms.length = R) (hR6 : R ≤ 6) (hC0 : 1 ≤ C) (hC : C ≤ 6) (hb : ∀ x ∈ ms, x < 64) (hcs : ∀ c ∈ cs, c < R * C) (hl : cs.length ≤ 1048576) (k : Nat) (hk : 36 * cs.length + 600 < k) :
    spec_feOrder.f k (R : Int) (C : Int) (ms.map (fun (x : Nat) => (x : Int))) (cs.map (fun (x : Nat) => (x : Int))) = some (match orderFrom R C ms cs R [] with | none => ([], false) | some l => (l.map (fun (x : Nat) => (x : Int)), true)) := by
  unfold spec_feOrder.f
  have hm : R * (6 * (cs.length + 12) + 4) ≤ 6 * (6 * (cs.length + 12) + 4) := Nat.mul_le_mul_right _ hR6
  exact feOrder_l0 R C ms cs hR hR6 hC0 hC hb hcs hl R k [] (by simp) (by omega)

def emptyRow (C : Nat) (ms : List Nat) (i j : Nat) : List Int := ((List.range j).filter (fun c => !mk ms i c)).map (fun (c : Nat) => ((i * C + c : Nat) : Int))
def emptyTo (C : Nat) (ms : List Nat) (i : Nat) : List Int := (List.range i).flatMap (fun r => emptyRow C ms r C)
theorem emptyRow_succ (C : Nat) (ms : List Nat) (i j : Nat) : emptyRow C ms i (j + 1) = emptyRow C ms i j ++ (if mk ms i j = true then [] else [((i * C + j : Nat) : Int)]) := by
  unfold emptyRow
  rw [List.range_succ, List.filter_append, List.map_append]
  cases h : mk ms i j <;> simp [h]
theorem emptyRow_length (C : Nat) (ms : List Nat) (i j : Nat) : (emptyRow C ms i j).length ≤ j := by
  have := List.length_filter_le (fun c => !mk ms i c) (List.range j)
  simpa [emptyRow] using this
theorem emptyTo_succ (C : Nat) (ms : List Nat) (i : Nat) : emptyTo C ms (i + 1) = emptyTo C ms i ++ emptyRow C ms i C := by
  unfold emptyTo
  rw [List.range_succ, List.flatMap_append]
  simp
theorem emptyTo_length (C : Nat) (ms : List Nat) (i : Nat) : (emptyTo C ms i).length ≤ i * C := by
  induction i with
  | zero => simp [emptyTo]
  | succ i ih =>
    rw [emptyTo_succ, List.length_append, Nat.succ_mul]
    have := emptyRow_length C ms i C
    omega
theorem cell_wrap (i C j : Nat) (hi : i ≤ 6) (hC : C ≤ 6) (hj : j ≤ 6) : wrap64 ((wrap64 ((i : Int) * (C : Int))) + (j : Int)) = ((i * C + j : Nat) : Int) := by
  have h : i * C ≤ 6 * 6 := Nat.mul_le_mul hi hC
  have e : (i : Int) * (C : Int) = ((i * C : Nat) : Int) := by simp
  have e2 : wrap64 ((i * C : Nat) : Int) = ((i * C : Nat) : Int) := wrap_ok (by omega) (by omega)
  rw [e, e2, wrap_ok (by omega) (by omega)]
  simp
theorem emptyCells_l0 (R C : Nat) (ms : List Nat) (hR : ms.length = R) (hR6 : R ≤ 6) (hC : C ≤ 6) (hb : ∀ x ∈ ms, x < 64) : ∀ (d k i : Nat), i + d = R → d * (C + 3) < k → impl_Table_emptyCells.l0 k (emptyTo C ms i) (R : Int) (i : Int) (R : Int) (C : Int) (ms.map (fun (x : Nat) => (x : Int))) = some (emptyTo C ms R) := by
  intro d
  induction d with
  | zero =>
    intro k i hi hk
    obtain ⟨k, rfl⟩ : ∃ m, k = m + 1 := ⟨k - 1, by omega⟩
    simp only [impl_Table_emptyCells.l0]
    have e : i = R := by omega
    rw [if_neg (by omega), e]
  | succ d ih =>
    intro k i hi hk
    rw [Nat.succ_mul] at hk
    obtain ⟨k, rfl⟩ : ∃ m, k = m + 1 := ⟨k - 1, by omega⟩
    simp only [impl_Table_emptyCells.l0]
    rw [if_pos (by omega)]
    have inner : ∀ (e k j : Nat), j + e = C → d * (C + 3) + 1 + e < k → impl_Table_emptyCells.l1 k (emptyTo C ms i ++ emptyRow C ms i j) (i : Int) (R : Int) (i : Int) (C : Int) (j : Int) (R : Int) (C : Int) (ms.map (fun (x : Nat) => (x : Int))) = some (emptyTo C ms R) := by
      intro e
      induction e with
      | zero =>
        intro k j hj hk
        obtain ⟨k, rfl⟩ : ∃ m, k = m + 1 := ⟨k - 1, by omega⟩
        simp only [impl_Table_emptyCells.l1]
        have e2 : j = C := by omega
        rw [if_neg (by omega), wrap_ok (by omega) (by omega), show ((i : Int) + 1) = ((i + 1 : Nat) : Int) by omega, e2, ← emptyTo_succ]
        exact ih k (i + 1) (by omega) (by omega)
      | succ e ihe =>
        intro k j hj hk
        obtain ⟨k, rfl⟩ : ∃ m, k = m + 1 := ⟨k - 1, by omega⟩
        simp only [impl_Table_emptyCells.l1]
        have next := ihe k (j + 1) (by omega) (by omega)
        have l1 := emptyTo_length C ms i
        have l2 := emptyRow_length C ms i j
        have l3 : i * C ≤ 6 * 6 := Nat.mul_le_mul (by omega) hC
        rw [if_pos (by omega), marked_k _ _ ms i j hb (by omega) (by omega), wrap_ok (show -9223372036854775808 ≤ (j : Int) + 1 by omega) (by omega), show ((j : Int) + 1) = ((j + 1 : Nat) : Int) by omega, cell_wrap i C j (by omega) hC (by omega)]
        simp only [Option.bind_some]
        rw [emptyRow_succ] at next
        cases hm : mk ms i j
        · rw [if_neg (by simp), if_pos (by simp; omega)]
          simpa [hm] using next
        · rw [if_pos rfl]
          simpa [hm] using next
    have := inner C k 0 (by omega) (by omega)
    simpa [emptyRow] using this
theorem emptyCells_k (R C : Nat) (ms : List Nat) (hR : ms.length = R) (hR6 : R ≤ 6) (hC : C ≤ 6) (hb : ∀ x ∈ ms, x < 64) (k : Nat) (hk : 100 ≤ k) : impl_Table_emptyCells.f k (R : Int) (C : Int) (ms.map (fun (x : Nat) => (x : Int))) = some (emptyTo C ms R) := by
  unfold impl_Table_emptyCells.f
  have h : R * (C + 3) ≤ 6 * 9 := Nat.mul_le_mul hR6 (by omega)
  exact emptyCells_l0 R C ms hR hR6 hC hb R k 0 (by omega) (by omega)
theorem feEmpty_l0 (R C : Nat) (ms : List Nat) (hR : ms.length = R) (hR6 : R ≤ 6) (hC : C ≤ 6) (hb : ∀ x ∈ ms, x < 64) : ∀ (d k i : Nat), i + d = R → d * (C + 3) < k → spec_feEmpty.l0 k (emptyTo C ms i) (ms.map (fun (x : Nat) => (x : Int))) (R : Int) (i : Int) (R : Int) (C : Int) (ms.map (fun (x : Nat) => (x : Int))) = some (emptyTo C ms R) := by
  intro d
  induction d with
  | zero =>
    intro k i hi hk
    obtain ⟨k, rfl⟩ : ∃ m, k = m + 1 := ⟨k - 1, by omega⟩
    simp only [spec_feEmpty.l0]
    have e : i = R := by omega
    rw [if_neg (by omega), e]
  | succ d ih =>
    intro k i hi hk
    rw [Nat.succ_mul] at hk
    obtain ⟨k, rfl⟩ : ∃ m, k = m + 1 := ⟨k - 1, by omega⟩
    simp only [spec_feEmpty.l0]
    rw [if_pos (by omega), if_pos (by omega), if_pos (by simp; omega), rd_map]
    have hx := getD_lt (b := 64) (by omega) hb i
    have inner : ∀ (e k j : Nat), j + e = C → d * (C + 3) + 1 + e < k → spec_feEmpty.l1 k (emptyTo C ms i ++ emptyRow C ms i j) (i : Int) ((ms.getD i 0 : Nat) : Int) (j : Int) (ms.map (fun (x : Nat) => (x : Int))) (R : Int) (i : Int) (R : Int) (C : Int) (ms.map (fun (x : Nat) => (x : Int))) = some (emptyTo C ms R) := by
      intro e
      induction e with
      | zero =>
        intro k j hj hk
        obtain ⟨k, rfl⟩ : ∃ m, k = m + 1 := ⟨k - 1, by omega⟩
        simp only [spec_feEmpty.l1]
        have e2 : j = C := by omega
        rw [if_neg (by omega), wrap_ok (by omega) (by omega), show ((i : Int) + 1) = ((i + 1 : Nat) : Int) by omega, e2, ← emptyTo_succ]
        exact ih k (i + 1) (by omega) (by omega)
      | succ e ihe =>
        intro k j hj hk
        obtain ⟨k, rfl⟩ : ∃ m, k = m + 1 := ⟨k - 1, by omega⟩
        simp only [spec_feEmpty.l1]
        have next := ihe k (j + 1) (by omega) (by omega)
        have l1 := emptyTo_length C ms i
        have l2 := emptyRow_length C ms i j
        have l3 : i * C ≤ 6 * 6 := Nat.mul_le_mul (by omega) hC
        rw [if_pos (by omega), orHas_k _ j (by omega), wrap_ok (show -9223372036854775808 ≤ (j : Int) + 1 by omega) (by omega), show ((j : Int) + 1) = ((j + 1 : Nat) : Int) by omega, cell_wrap i C j (by omega) hC (by omega)]
        simp only [Option.bind_some]
        rw [emptyRow_succ] at next
        have em : (ms.getD i 0).testBit j = mk ms i j := rfl
        rw [em]
        cases hm : mk ms i j
        · rw [if_neg (by simp), if_pos (by simp; omega)]
          simpa [hm] using next
        · rw [if_pos rfl]
          simpa [hm] using next
    have := inner C k 0 (by omega) (by omega)
    simpa [emptyRow] using this
theorem feEmpty_k (R C : Nat) (ms : List Nat) (hR : ms.length = R) (hR6 : R ≤ 6) (hC : C ≤ 6) (hb : ∀ x ∈ ms, x < 64) (k : Nat) (hk : 100 ≤ k) : spec_feEmpty.f k (R : Int) (C : Int) (ms.map (fun (x : Nat) => (x : Int))) = some (emptyTo C ms R) := by
  unfold spec_feEmpty.f
  have h : R * (C + 3) ≤ 6 * 9 := Nat.mul_le_mul hR6 (by omega)
  have e : (((ms.map (fun (x : Nat) => (x : Int))).length : Nat) : Int) = (R : Int) := by simp; omega
  rw [e]
  exact feEmpty_l0 R C ms hR hR6 hC hb R k 0 (by omega) (by omega)

def partTo (es ns : List Nat) (d : Nat) : Nat → List Nat
  | 0 => []
  | i + 1 => if ns.getD i 0 = d then partTo es ns d i ++ [es.getD i 0] else partTo es ns d i
theorem partTo_length (es ns : List Nat) (d : Nat) : ∀ i, (partTo es ns d i).length ≤ i := by
  intro i
  induction i with
  | zero => simp [partTo]
  | succ i ih =>
    rw [partTo]
    split
    · simp; omega
    · omega
theorem partTo_lt (es ns : List Nat) (d b : Nat) (hb : ∀ c ∈ es, c < b) : ∀ i, i ≤ es.length → ∀ c ∈ partTo es ns d i, c < b := by
  intro i
  induction i with
  | zero => intro _ c hc; simp [partTo] at hc
  | succ i ih =>
    intro hi c hc
    rw [partTo] at hc
    split at hc
    · rcases List.mem_append.1 hc with h | h
      · exact ih (by omega) c h
      · have : c = es.getD i 0 := by simpa using h
        rw [this, List.getD_eq_getElem?_getD, List.getElem?_eq_getElem (by omega)]
        exact hb _ (List.getElem_mem _)
    · exact ih (by omega) c hc
theorem partTo_app (es ns : List Nat) (d x : Nat) : ∀ i, i ≤ ns.length → partTo es (ns ++ [x]) d i = partTo es ns d i := by
  intro i
  induction i with
  | zero => intro _; rfl
  | succ i ih =>
    intro hi
    rw [partTo, partTo, ih (by omega)]
    have : (ns ++ [x]).getD i 0 = ns.getD i 0 := by
      simp only [List.getD_eq_getElem?_getD]
      rw [List.getElem?_append_left (by omega)]
    rw [this]
def partN (es ns : List Nat) (d : Nat) : List Nat := partTo es ns d ns.length
theorem partN_other (es ns : List Nat) (d x : Nat) (h : x ≠ d) : partN es (ns ++ [x]) d = partN es ns d := by
  unfold partN
  rw [List.length_append, List.length_singleton, partTo, partTo_app _ _ _ _ _ (Nat.le_refl _)]
  have : (ns ++ [x]).getD ns.length 0 = x := by simp [List.getD_eq_getElem?_getD]
  rw [this, if_neg h]
theorem fePart_l0 (es ns : List Nat) (d : Nat) (hl : ns.length ≤ es.length) (hs : ns.length ≤ 100) : ∀ (e k i : Nat), i + e = ns.length → e < k →
    spec_fePart.l0 k (es.map (fun (x : Nat) => (x : Int))) (d : Int) ((partTo es ns d i).map (fun (x : Nat) => (x : Int))) (ns.map (fun (x : Nat) => (x : Int))) (ns.length : Int) (i : Int) = some ((partN es ns d).map (fun (x : Nat) => (x : Int))) := by
  intro e
  induction e with
  | zero =>
    intro k i hi hk
    obtain ⟨k, rfl⟩ : ∃ m, k = m + 1 := ⟨k - 1, by omega⟩
    have : i = ns.length := by omega
    subst this
    simp only [spec_fePart.l0]
    rw [if_neg (by omega)]
    rfl
  | succ e ih =>
    intro k i hi hk
    obtain ⟨k, rfl⟩ : ∃ m, k = m + 1 := ⟨k - 1, by omega⟩
    simp only [spec_fePart.l0]
    have next := ih k (i + 1) (by omega) (by omega)
    have hp := partTo_length es ns d i
    rw [partTo] at next
    rw [if_pos (by omega), if_pos (by omega), if_pos (by simp; omega), rd_map, wrap_ok (by omega) (by omega), show ((i : Int) + 1) = ((i + 1 : Nat) : Int) by omega]
    by_cases h : ns.getD i 0 = d
    · rw [if_pos (by omega), if_pos (by simp; omega), if_pos (by simp; omega), rd_map]
      rw [if_pos h] at next
      simpa using next
    · rw [if_neg (by omega)]
      rw [if_neg h] at next
      exact next
theorem fePart_k (es ns : List Nat) (d : Nat) (hl : ns.length ≤ es.length) (hs : ns.length ≤ 100) (k : Nat) (hk : ns.length < k) :
    spec_fePart.f k (es.map (fun (x : Nat) => (x : Int))) (ns.map (fun (x : Nat) => (x : Int))) (d : Int) = some ((partN es ns d).map (fun (x : Nat) => (x : Int))) := by
  unfold spec_fePart.f
  rw [List.length_map]
  exact fePart_l0 es ns d hl hs ns.length k 0 (by omega) hk
theorem cellsWith_l0 (es ns : List Nat) (d : Nat) (hl : ns.length ≤ es.length) (hs : ns.length ≤ 100) : ∀ (e k i : Nat), i + e = ns.length → e < k →
    impl_cellsWith.l0 k (es.map (fun (x : Nat) => (x : Int))) (d : Int) ((partTo es ns d i).map (fun (x : Nat) => (x : Int))) (ns.map (fun (x : Nat) => (x : Int))) (ns.length : Int) (i : Int) = some ((partN es ns d).map (fun (x : Nat) => (x : Int))) := by
  intro e
  induction e with
  | zero =>
    intro k i hi hk
    obtain ⟨k, rfl⟩ : ∃ m, k = m + 1 := ⟨k - 1, by omega⟩
    have : i = ns.length := by omega
    subst this
    simp only [impl_cellsWith.l0]
    rw [if_neg (by omega)]
    rfl
  | succ e ih =>
    intro k i hi hk
    obtain ⟨k, rfl⟩ : ∃ m, k = m + 1 := ⟨k - 1, by omega⟩
    simp only [impl_cellsWith.l0]
    have next := ih k (i + 1) (by omega) (by omega)
    have hp := partTo_length es ns d i
    rw [partTo] at next
    rw [if_pos (by omega), if_pos (by omega), if_pos (by simp; omega), rd_map, wrap_ok (by omega) (by omega), show ((i : Int) + 1) = ((i + 1 : Nat) : Int) by omega]
    by_cases h : ns.getD i 0 = d
    · rw [if_pos (by omega), if_pos (by simp; omega), if_pos (by simp; omega), rd_map]
      rw [if_pos h] at next
      simpa using next
    · rw [if_neg (by omega)]
      rw [if_neg h] at next
      exact next
theorem cellsWith_k (es ns : List Nat) (d : Nat) (hl : ns.length ≤ es.length) (hs : ns.length ≤ 100) (k : Nat) (hk : ns.length < k) :
    impl_cellsWith.f k (es.map (fun (x : Nat) => (x : Int))) (ns.map (fun (x : Nat) => (x : Int))) (d : Int) = some ((partN es ns d).map (fun (x : Nat) => (x : Int))) := by
  unfold impl_cellsWith.f
  rw [List.length_map]
  exact cellsWith_l0 es ns d hl hs ns.length k 0 (by omega) hk
def okP (R C : Nat) (ms es ns : List Nat) (d : Nat) : Bool := (orderFrom R C ms (partN es ns d) R []).isSome
def spl (R C : Nat) (ms es : List Nat) (m : Nat) : Nat → List Nat → Option (List Nat)
  | 0, ns => some ns
  | r + 1, ns => (List.range' 0 m).findSome? fun d => if okP R C ms es (ns ++ [d]) d = true then spl R C ms es m r (ns ++ [d]) else none
theorem free_none (R C : Nat) (ms cs : List Nat) (hR0 : 1 ≤ R) : ((orderFrom R C ms cs R []).getD []).map (fun (x : Nat) => (x : Int)) = [] ↔ (orderFrom R C ms cs R []).isSome = false := by
  cases h : orderFrom R C ms cs R [] with
  | none => simp
  | some l =>
    have := orderFrom_length R C ms cs R [] l h
    cases l with
    | nil => simp at this; omega
    | cons a l => simp
theorem okP_other (R C : Nat) (ms es ns : List Nat) (d x : Nat) (h : x ≠ d) : okP R C ms es (ns ++ [x]) d = okP R C ms es ns d := by
  unfold okP
  rw [partN_other _ _ _ _ h]
theorem map_snoc (ns : List Nat) (x : Nat) : (ns.map (fun (x : Nat) => (x : Int))) ++ [(x : Int)] = (ns ++ [x]).map (fun (x : Nat) => (x : Int)) := by simp
def rounds (r : Nat) : Nat := 2000 + r * 40
theorem split1_k (R C : Nat) (ms es : List Nat) (hR : ms.length = R) (hR0 : 1 ≤ R) (hR6 : R ≤ 6) (hC0 : 1 ≤ C) (hC : C ≤ 6) (hb : ∀ x ∈ ms, x < 64) (hes : ∀ c ∈ es, c < R * C) (he9 : es.length ≤ 9) (m : Nat) (hm : m ≤ 4) : ∀ (r : Nat) (ns : List Nat) (k : Nat), ns.length + r = es.length → rounds r < k →
    impl_Table_split_1.f k (R : Int) (C : Int) (ms.map (fun (x : Nat) => (x : Int))) (es.map (fun (x : Nat) => (x : Int))) (m : Int) (ns.map (fun (x : Nat) => (x : Int))) = some ((spl R C ms es m r ns).map (fun l => l.map (fun (x : Nat) => (x : Int)))) := by
  intro r
  induction r with
  | zero =>
    intro ns k hr hk
    obtain ⟨k, rfl⟩ : ∃ m, k = m + 1 := ⟨k - 1, by omega⟩
    rw [impl_Table_split_1.f, if_pos (by simp; omega)]
    rfl
  | succ r ih =>
    intro ns k hr hk
    unfold rounds at hk
    obtain ⟨k, rfl⟩ : ∃ m, k = m + 1 := ⟨k - 1, by omega⟩
    rw [impl_Table_split_1.f, if_neg (by simp; omega), spl]
    have loop : ∀ (e k i : Nat), i + e = m → rounds r + e + 1 < k →
        impl_Table_split_1.l0 k (R : Int) (C : Int) (ms.map (fun (x : Nat) => (x : Int))) (es.map (fun (x : Nat) => (x : Int))) (m : Int) (ns.map (fun (x : Nat) => (x : Int))) (i : Int) = some (((List.range' i e).findSome? fun d => if okP R C ms es (ns ++ [d]) d = true then spl R C ms es m r (ns ++ [d]) else none).map (fun l => l.map (fun (x : Nat) => (x : Int)))) := by
      intro e
      induction e with
      | zero =>
        intro k i hi hk
        obtain ⟨k, rfl⟩ : ∃ m, k = m + 1 := ⟨k - 1, by omega⟩
        rw [impl_Table_split_1.l0, if_neg (by omega)]
        rfl
      | succ e ihe =>
        intro k i hi hk
        obtain ⟨k, rfl⟩ : ∃ m, k = m + 1 := ⟨k - 1, by omega⟩
        unfold rounds at hk
        have hcl : slices_Clone_int_int.f (ns.map (fun (x : Nat) => (x : Int))) = some (ns.map (fun (x : Nat) => (x : Int))) := by
          unfold slices_Clone_int_int.f
          rw [if_pos (by simp; omega)]
        have hl : (ns ++ [i]).length ≤ es.length := by simp; omega
        have hpl := partTo_length es (ns ++ [i]) i (ns ++ [i]).length
        have hpb := partTo_lt es (ns ++ [i]) i _ hes (ns ++ [i]).length hl
        have hp9 : (partN es (ns ++ [i]) i).length ≤ 9 := by unfold partN; omega
        have next := ihe k (i + 1) (by omega) (by unfold rounds; omega)
        rw [impl_Table_split_1.l0, if_pos (by omega), hcl]
        simp only [Option.bind_some]
        rw [if_pos (by simp; omega), map_snoc, cellsWith_k es _ i hl (by simp; omega) k (by simp; omega)]
        simp only [Option.bind_some]
        rw [freeOrder_k R C ms (partN es (ns ++ [i]) i) hR hR0 hR6 hC0 hC hb hpb (by omega) k (by omega)]
        simp only [Option.bind_some]
        rw [wrap_ok (by omega) (by omega), show ((i : Int) + 1) = ((i + 1 : Nat) : Int) by omega, List.range'_succ, List.findSome?_cons]
        by_cases ho : okP R C ms es (ns ++ [i]) i = true
        · rw [if_neg (fun h => by have := (free_none R C ms _ hR0).1 h; unfold okP partN at ho; unfold partN at this; rw [this] at ho; cases ho), if_pos ho, ih (ns ++ [i]) k (by simp; omega) (by unfold rounds; omega)]
          cases hs : spl R C ms es m r (ns ++ [i]) with
          | none => exact next
          | some l => rfl
        · rw [if_pos ((free_none R C ms _ hR0).2 (by unfold okP partN at ho; exact Bool.eq_false_iff.2 ho)), if_neg ho]
          exact next
    exact loop m k 0 (by omega) (by unfold rounds; omega)
theorem l1Own_small (l : List Int) (h : l.length ≤ 1000) : spec_l1Own.f l = some l := by
  unfold spec_l1Own.f
  simp only [Option.bind_some, List.nil_append, List.length_nil]
  rw [if_pos (by omega)]
def handed : Option (List Nat) → List Int × Bool
  | none => ([], false)
  | some l => (l.map (fun (x : Nat) => (x : Int)), true)
theorem feSplit_check (R C : Nat) (ms es : List Nat) (hR : ms.length = R) (hR6 : R ≤ 6) (hC0 : 1 ≤ C) (hC : C ≤ 6) (hb : ∀ x ∈ ms, x < 64) (hes : ∀ c ∈ es, c < R * C) (he9 : es.length ≤ 9) (m : Nat) (hm : m ≤ 4) (ns : List Nat) (hl : ns.length ≤ es.length) (K : Nat) (hK : 1500 ≤ K) (W : List Int × Bool)
    (hW : ∀ k, K < k → spec_feSplit.l0 k (es.map (fun (x : Nat) => (x : Int))) (ns.map (fun (x : Nat) => (x : Int))) (m : Int) (m : Int) (R : Int) (C : Int) (ms.map (fun (x : Nat) => (x : Int))) = some W) : ∀ (e k i : Nat), i + e = m → K + e < k →
    spec_feSplit.l0 k (es.map (fun (x : Nat) => (x : Int))) (ns.map (fun (x : Nat) => (x : Int))) (m : Int) (i : Int) (R : Int) (C : Int) (ms.map (fun (x : Nat) => (x : Int))) = some (if (List.range' i e).all (fun d => okP R C ms es ns d) = true then W else ([], false)) := by
  intro e
  induction e with
  | zero =>
    intro k i hi hk
    have : i = m := by omega
    subst this
    rw [hW k (by omega)]
    rfl
  | succ e ih =>
    intro k i hi hk
    obtain ⟨k, rfl⟩ : ∃ m, k = m + 1 := ⟨k - 1, by omega⟩
    have hpl := partTo_length es ns i ns.length
    have hpb := partTo_lt es ns i _ hes ns.length hl
    have hp9 : (partN es ns i).length ≤ 9 := by unfold partN; omega
    rw [spec_feSplit.l0, if_pos (by omega), fePart_k es ns i hl (by omega) k (by omega)]
    simp only [Option.bind_some]
    rw [feOrder_k R C ms (partN es ns i) hR hR6 hC0 hC hb hpb (by omega) k (by omega)]
    simp only [Option.bind_some]
    rw [wrap_ok (by omega) (by omega), show ((i : Int) + 1) = ((i + 1 : Nat) : Int) by omega, ih k (i + 1) (by omega) (by omega), List.range'_succ, List.all_cons]
    have ho : okP R C ms es ns i = (orderFrom R C ms (partN es ns i) R []).isSome := rfl
    cases h0 : orderFrom R C ms (partN es ns i) R [] with
    | none => rw [h0] at ho; rw [ho]; simp
    | some l =>
      rw [h0] at ho
      have ho2 : okP R C ms es ns i = true := ho
      rw [ho2, Bool.true_and]
      rfl
theorem feSplit_k (R C : Nat) (ms es : List Nat) (hR : ms.length = R) (hR0 : 1 ≤ R) (hR6 : R ≤ 6) (hC0 : 1 ≤ C) (hC : C ≤ 6) (hb : ∀ x ∈ ms, x < 64) (hes : ∀ c ∈ es, c < R * C) (he9 : es.length ≤ 9) (m : Nat) (hm : m ≤ 4) : ∀ (r : Nat) (ns : List Nat) (k : Nat), ns.length + r = es.length → rounds r < k →
    spec_feSplit.f k (R : Int) (C : Int) (ms.map (fun (x : Nat) => (x : Int))) (es.map (fun (x : Nat) => (x : Int))) (ns.map (fun (x : Nat) => (x : Int))) (m : Int) = some (if (List.range' 0 m).all (fun d => okP R C ms es ns d) = true then handed (spl R C ms es m r ns) else ([], false)) := by
  intro r
  induction r with
  | zero =>
    intro ns k hr hk
    unfold rounds at hk
    obtain ⟨k, rfl⟩ : ∃ m, k = m + 1 := ⟨k - 1, by omega⟩
    rw [spec_feSplit.f]
    refine feSplit_check R C ms es hR hR6 hC0 hC hb hes he9 m hm ns (by omega) 1500 (by omega) _ ?_ m k 0 (by omega) (by omega)
    intro k hk
    obtain ⟨k, rfl⟩ : ∃ m, k = m + 1 := ⟨k - 1, by omega⟩
    rw [spec_feSplit.l0, if_neg (by omega), if_pos (by simp; omega)]
    rfl
  | succ r ih =>
    intro ns k hr hk
    unfold rounds at hk
    obtain ⟨k, rfl⟩ : ∃ m, k = m + 1 := ⟨k - 1, by omega⟩
    rw [spec_feSplit.f]
    by_cases hall : (List.range' 0 m).all (fun d => okP R C ms es ns d) = true
    · have hall' : ∀ d, d < m → okP R C ms es ns d = true := by
        intro d hd
        exact List.all_eq_true.1 hall d (by rw [List.mem_range']; exact ⟨d, hd, by omega⟩)
      have hch := feSplit_check R C ms es hR hR6 hC0 hC hb hes he9 m hm ns (by omega) (rounds r + 10) (by unfold rounds; omega) (handed (spl R C ms es m (r + 1) ns)) ?_ m k 0 (by omega) (by unfold rounds; omega)
      · exact hch
      intro k hk
      obtain ⟨k, rfl⟩ : ∃ m, k = m + 1 := ⟨k - 1, by omega⟩
      rw [spec_feSplit.l0, if_neg (by omega), if_neg (by simp; omega), spl]
      have loop : ∀ (e k i : Nat), i + e = m → rounds r + e + 1 < k →
          spec_feSplit.l1 k (es.map (fun (x : Nat) => (x : Int))) (ns.map (fun (x : Nat) => (x : Int))) (m : Int) (i : Int) (R : Int) (C : Int) (ms.map (fun (x : Nat) => (x : Int))) = some (handed ((List.range' i e).findSome? fun d => if okP R C ms es (ns ++ [d]) d = true then spl R C ms es m r (ns ++ [d]) else none)) := by
        intro e
        induction e with
        | zero =>
          intro k i hi hk
          obtain ⟨k, rfl⟩ : ∃ m, k = m + 1 := ⟨k - 1, by omega⟩
          rw [spec_feSplit.l1, if_neg (by omega)]
          rfl
        | succ e ihe =>
          intro k i hi hk
          obtain ⟨k, rfl⟩ : ∃ m, k = m + 1 := ⟨k - 1, by omega⟩
          have next := ihe k (i + 1) (by omega) (by omega)
          rw [spec_feSplit.l1, if_pos (by omega), l1Own_small _ (by simp; omega)]
          simp only [Option.bind_some]
          rw [if_pos (by simp; omega), map_snoc, ih (ns ++ [i]) k (by simp; omega) (by omega)]
          simp only [Option.bind_some]
          rw [wrap_ok (by omega) (by omega), show ((i : Int) + 1) = ((i + 1 : Nat) : Int) by omega, next, List.range'_succ, List.findSome?_cons]
          by_cases ho : okP R C ms es (ns ++ [i]) i = true
          · have ha : (List.range' 0 m).all (fun d => okP R C ms es (ns ++ [i]) d) = true := by
              rw [List.all_eq_true]
              intro d hd
              rw [List.mem_range'] at hd
              obtain ⟨j, hj, e1⟩ := hd
              by_cases hdi : i = d
              · rw [← hdi]; exact ho
              · rw [okP_other R C ms es ns d i hdi]
                exact hall' d (by omega)
            rw [if_pos ha, if_pos ho]
            cases hs : spl R C ms es m r (ns ++ [i]) with
            | none => rfl
            | some l => rfl
          · have ha : ¬ (List.range' 0 m).all (fun d => okP R C ms es (ns ++ [i]) d) = true := by
              intro h
              exact ho (List.all_eq_true.1 h i (by rw [List.mem_range']; exact ⟨i, by omega, by omega⟩))
            rw [if_neg ha, if_neg ho]
            rfl
      exact loop m k 0 (by omega) (by omega)
    · rw [if_neg hall]
      -- some part is refused at once: the loop says so without going further
      have chk : ∀ (e k i : Nat), i + e = m → 1500 + e < k → ¬ (List.range' i e).all (fun d => okP R C ms es ns d) = true → spec_feSplit.l0 k (es.map (fun (x : Nat) => (x : Int))) (ns.map (fun (x : Nat) => (x : Int))) (m : Int) (i : Int) (R : Int) (C : Int) (ms.map (fun (x : Nat) => (x : Int))) = some ([], false) := by
        intro e
        induction e with
        | zero => intro k i hi hk h; exact absurd rfl h
        | succ e ihe =>
          intro k i hi hk h
          obtain ⟨k, rfl⟩ : ∃ m, k = m + 1 := ⟨k - 1, by omega⟩
          have hl : ns.length ≤ es.length := by omega
          have hpl := partTo_length es ns i ns.length
          have hpb := partTo_lt es ns i _ hes ns.length hl
          have hp9 : (partN es ns i).length ≤ 9 := by unfold partN; omega
          rw [spec_feSplit.l0, if_pos (by omega), fePart_k es ns i hl (by omega) k (by omega)]
          simp only [Option.bind_some]
          rw [feOrder_k R C ms (partN es ns i) hR hR6 hC0 hC hb hpb (by omega) k (by omega)]
          simp only [Option.bind_some]
          rw [List.range'_succ, List.all_cons] at h
          have ho : okP R C ms es ns i = (orderFrom R C ms (partN es ns i) R []).isSome := rfl
          cases h0 : orderFrom R C ms (partN es ns i) R [] with
          | none => simp
          | some l =>
            rw [h0] at ho
            simp only [if_true]
            rw [wrap_ok (by omega) (by omega), show ((i : Int) + 1) = ((i + 1 : Nat) : Int) by omega]
            exact ihe k (i + 1) (by omega) (by omega) (by rw [ho] at h; simpa using h)
      exact chk m k 0 (by omega) (by omega) hall
theorem pick_free (R C : Nat) (ms : List Nat) (i : Nat) (hi : i < R) : pick R C ms [] (List.range i) = some i := by
  unfold pick
  have h : ∀ r, ready C ms [] (List.range i) r = !decide (r < i) := by
    intro r
    unfold ready
    simp
  rw [List.find?_eq_some_iff_getElem]
  refine ⟨by rw [h]; simp, i, by simpa using hi, by simp, fun j hj => ?_⟩
  rw [h]
  simp [hj]
theorem orderFrom_free (R C : Nat) (ms : List Nat) : ∀ d i, i + d = R → orderFrom R C ms [] d (List.range i) = some (List.range R) := by
  intro d
  induction d with
  | zero =>
    intro i hi
    have : i = R := by omega
    rw [this]
    rfl
  | succ d ih =>
    intro i hi
    rw [orderFrom, pick_free R C ms i (by omega)]
    simp only [Option.bind_some]
    rw [← List.range_succ]
    exact ih (i + 1) (by omega)
theorem okP_nil (R C : Nat) (ms es : List Nat) (d : Nat) : okP R C ms es [] d = true := by
  unfold okP partN partTo
  have := orderFrom_free R C ms R 0 (by omega)
  simp only [List.range_zero] at this
  simp only [List.length_nil]
  rw [this]
  rfl
def emptyN (C : Nat) (ms : List Nat) (R : Nat) : List Nat := (emptyTo C ms R).map Int.toNat
theorem emptyTo_mem (C : Nat) (ms : List Nat) (R : Nat) (x : Int) (h : x ∈ emptyTo C ms R) : ∃ n : Nat, x = (n : Int) ∧ n < R * C := by
  unfold emptyTo at h
  rw [List.mem_flatMap] at h
  obtain ⟨r, hr, h⟩ := h
  unfold emptyRow at h
  rw [List.mem_map] at h
  obtain ⟨c, hc, rfl⟩ := h
  have hc2 : c < C := by
    have := (List.mem_filter.1 hc).1
    simpa using this
  have hr2 : r < R := by simpa using hr
  refine ⟨r * C + c, rfl, ?_⟩
  have : (r + 1) * C ≤ R * C := Nat.mul_le_mul_right C (by omega)
  rw [Nat.succ_mul] at this
  omega
theorem emptyN_map (C : Nat) (ms : List Nat) (R : Nat) : (emptyN C ms R).map (fun (x : Nat) => (x : Int)) = emptyTo C ms R := by
  unfold emptyN
  rw [List.map_map]
  conv => rhs; rw [← List.map_id (emptyTo C ms R)]
  apply List.map_congr_left
  intro x hx
  obtain ⟨n, rfl, _⟩ := emptyTo_mem C ms R x hx
  simp
theorem emptyN_lt (C : Nat) (ms : List Nat) (R : Nat) : ∀ c ∈ emptyN C ms R, c < R * C := by
  intro c hc
  unfold emptyN at hc
  rw [List.mem_map] at hc
  obtain ⟨x, hx, rfl⟩ := hc
  obtain ⟨n, rfl, h⟩ := emptyTo_mem C ms R x hx
  simpa using h
theorem emptyN_length (C : Nat) (ms : List Nat) (R : Nat) : (emptyN C ms R).length = (emptyTo C ms R).length := by simp [emptyN]

theorem split_dec (R C : Int) (M : List Int) (hM : M.length ≤ 1048576) : (∀ k, M.length + 400 < k → impl_isSplit.f k R C M = some false ∧ spec_feFew.f k R C M = some false) ∨ ((∀ k, M.length + 400 < k → impl_isSplit.f k R C M = some true ∧ spec_feFew.f k R C M = some true) ∧ ∃ (r c : Nat) (ms : List Nat), R = (r : Int) ∧ C = (c : Int) ∧ M = ms.map (fun (x : Nat) => (x : Int)) ∧ 1 ≤ r ∧ r ≤ 6 ∧ 1 ≤ c ∧ c ≤ 6 ∧ ms.length = r ∧ (∀ x ∈ ms, x < 64) ∧ (emptyTo c ms r).length ≤ 9) := by
  unfold impl_isSplit.f spec_feFew.f
  cases hT : isTab R C M
  · refine .inl fun k hk => ?_
    rw [IsTable_k R C M (by omega) k (by omega), feGood_k R C M (by omega) k (by omega), hT]
    exact ⟨rfl, rfl⟩
  · obtain ⟨r, c, ms, rfl, rfl, rfl, h1, h2, h3, h4, h5, h6⟩ := (isTab_iff R C M).1 hT
    have h64 : ∀ x ∈ ms, x < 64 := fun x hx => Nat.lt_of_lt_of_le (h6 x hx) (Nat.pow_le_pow_right (n := 2) (by omega) h4)
    have both : ∀ k, (ms.map (fun (x : Nat) => (x : Int))).length + 400 < k → impl_Table_emptyCells.f k (r : Int) (c : Int) (ms.map (fun (x : Nat) => (x : Int))) = some (emptyTo c ms r) ∧ spec_feEmpty.f k (r : Int) (c : Int) (ms.map (fun (x : Nat) => (x : Int))) = some (emptyTo c ms r) := fun k hk => ⟨emptyCells_k r c ms h5 h2 h4 h64 k (by omega), feEmpty_k r c ms h5 h2 h4 h64 k (by omega)⟩
    by_cases h9 : (emptyTo c ms r).length ≤ 9
    · refine .inr ⟨fun k hk => ?_, r, c, ms, rfl, rfl, rfl, h1, h2, h3, h4, h5, h64, h9⟩
      rw [IsTable_k _ _ _ (by omega) k (by omega), feGood_k _ _ _ (by omega) k (by omega), hT]
      simp only [Option.bind_some, if_true]
      rw [(both k hk).1, (both k hk).2]
      simp only [Option.bind_some, Option.some.injEq, decide_eq_true_eq]
      omega
    · refine .inl fun k hk => ?_
      rw [IsTable_k _ _ _ (by omega) k (by omega), feGood_k _ _ _ (by omega) k (by omega), hT]
      simp only [Option.bind_some, if_true]
      rw [(both k hk).1, (both k hk).2]
      simp only [Option.bind_some, Option.some.injEq, decide_eq_false_iff_not]
      omega
theorem split_impl (r c : Nat) (ms : List Nat) (h1 : 1 ≤ r) (h2 : r ≤ 6) (h3 : 1 ≤ c) (h4 : c ≤ 6) (h5 : ms.length = r) (h64 : ∀ x ∈ ms, x < 64) (e9 : (emptyN c ms r).length ≤ 9) (n : Nat) (hn : n ≤ 4) : ∀ k, 3000 < k → impl_Table_split.f k (r : Int) (c : Int) (ms.map (fun (x : Nat) => (x : Int))) (n : Int) = some ((spl r c ms (emptyN c ms r) n (emptyN c ms r).length []).map (fun l => l.map (fun (x : Nat) => (x : Int)))) := by
  intro k hk
  unfold impl_Table_split.f
  rw [emptyCells_k r c ms h5 h2 h4 h64 k (by omega), ← emptyN_map]
  simp only [Option.bind_some]
  exact split1_k r c ms (emptyN c ms r) h5 h1 h2 h3 h4 h64 (emptyN_lt c ms r) e9 n hn (emptyN c ms r).length [] k (by simp) (by unfold rounds; omega)
theorem split_spec (r c : Nat) (ms : List Nat) (h1 : 1 ≤ r) (h2 : r ≤ 6) (h3 : 1 ≤ c) (h4 : c ≤ 6) (h5 : ms.length = r) (h64 : ∀ x ∈ ms, x < 64) (e9 : (emptyN c ms r).length ≤ 9) (n : Nat) (hn : n ≤ 4) : ∀ k, 2900 < k → spec_feSplit.f k (r : Int) (c : Int) (ms.map (fun (x : Nat) => (x : Int))) (emptyTo c ms r) [] (n : Int) = some (handed (spl r c ms (emptyN c ms r) n (emptyN c ms r).length [])) := by
  intro k hk
  have := feSplit_k r c ms (emptyN c ms r) h5 h1 h2 h3 h4 h64 (emptyN_lt c ms r) e9 n hn (emptyN c ms r).length [] k (by simp) (by unfold rounds; omega)
  rw [if_pos (List.all_eq_true.2 fun d _ => okP_nil r c ms _ d), emptyN_map] at this
  exact this

def leastFrom (r c : Nat) (ms es : List Nat) : Nat → Nat → Nat
  | 0, _ => 0
  | d + 1, m => if (spl r c ms es m es.length []).isSome then m else leastFrom r c ms es d (m + 1)
theorem leastParts_l0 (r c : Nat) (ms : List Nat) (h1 : 1 ≤ r) (h2 : r ≤ 6) (h3 : 1 ≤ c) (h4 : c ≤ 6) (h5 : ms.length = r) (h64 : ∀ x ∈ ms, x < 64) (e9 : (emptyN c ms r).length ≤ 9) : ∀ (d m k : Nat), m + d = 5 → 3000 + d < k →
    impl_Table_leastParts.l0 k (r : Int) (c : Int) (ms.map (fun (x : Nat) => (x : Int))) (m : Int) = some ((leastFrom r c ms (emptyN c ms r) d m : Nat) : Int) := by
  intro d
  induction d with
  | zero =>
    intro m k hm hk
    obtain ⟨k, rfl⟩ : ∃ m, k = m + 1 := ⟨k - 1, by omega⟩
    rw [impl_Table_leastParts.l0, if_neg (by omega)]
    rfl
  | succ d ih =>
    intro m k hm hk
    obtain ⟨k, rfl⟩ : ∃ m, k = m + 1 := ⟨k - 1, by omega⟩
    have next := ih (m + 1) k (by omega) (by omega)
    rw [impl_Table_leastParts.l0, if_pos (by omega), split_impl r c ms h1 h2 h3 h4 h5 h64 e9 m (by omega) k (by omega), wrap_ok (by omega) (by omega), show ((m : Int) + 1) = ((m + 1 : Nat) : Int) by omega, leastFrom]
    simp only [Option.bind_some]
    cases hs : spl r c ms (emptyN c ms r) m (emptyN c ms r).length [] with
    | none => exact next
    | some l => rfl
theorem leastPartsS_l0 (r c : Nat) (ms : List Nat) (h1 : 1 ≤ r) (h2 : r ≤ 6) (h3 : 1 ≤ c) (h4 : c ≤ 6) (h5 : ms.length = r) (h64 : ∀ x ∈ ms, x < 64) (e9 : (emptyN c ms r).length ≤ 9) : ∀ (d m k : Nat), 1 ≤ m → m + d = 5 → 3000 + d < k →
    spec_LeastParts.l0 k (m : Int) (r : Int) (c : Int) (ms.map (fun (x : Nat) => (x : Int))) = some (((leastFrom r c ms (emptyN c ms r) d m : Nat) : Int), decide (((leastFrom r c ms (emptyN c ms r) d m : Nat) : Int) > 0)) := by
  intro d
  induction d with
  | zero =>
    intro m k _ hm hk
    obtain ⟨k, rfl⟩ : ∃ m, k = m + 1 := ⟨k - 1, by omega⟩
    rw [spec_LeastParts.l0, if_neg (by omega)]
    rfl
  | succ d ih =>
    intro m k h0 hm hk
    obtain ⟨k, rfl⟩ : ∃ m, k = m + 1 := ⟨k - 1, by omega⟩
    have next := ih (m + 1) k (by omega) (by omega) (by omega)
    rw [spec_LeastParts.l0, if_pos (by omega), feEmpty_k r c ms h5 h2 h4 h64 k (by omega)]
    simp only [Option.bind_some]
    rw [split_spec r c ms h1 h2 h3 h4 h5 h64 e9 m (by omega) k (by omega), wrap_ok (by omega) (by omega), show ((m : Int) + 1) = ((m + 1 : Nat) : Int) by omega, leastFrom]
    simp only [Option.bind_some]
    cases hs : spl r c ms (emptyN c ms r) m (emptyN c ms r).length [] with
    | none => exact next
    | some l =>
      have hp : ((m : Nat) : Int) > 0 := by omega
      simp [handed, hp]
      omega
theorem leastParts_both (R C : Int) (M : List Int) (hM : M.length ≤ 1048576) : ∃ y z, (∀ k, M.length + 3100 < k → impl_LeastParts.f k R C M = some (y, z)) ∧ (∀ k, M.length + 3100 < k → spec_LeastParts.f k R C M = some (y, z)) := by
  rcases split_dec R C M hM with dec | ⟨dec, r, c, ms, rfl, rfl, rfl, h1, h2, h3, h4, h5, h64, h9⟩
  · refine ⟨0, false, fun k hk => ?_, fun k hk => ?_⟩
    · unfold impl_LeastParts.f
      rw [(dec k (by omega)).1]
      rfl
    · unfold spec_LeastParts.f
      rw [(dec k (by omega)).2]
      rfl
  · have e9 : (emptyN c ms r).length ≤ 9 := by rw [emptyN_length]; exact h9
    refine ⟨((leastFrom r c ms (emptyN c ms r) 4 1 : Nat) : Int), decide (((leastFrom r c ms (emptyN c ms r) 4 1 : Nat) : Int) > 0), fun k hk => ?_, fun k hk => ?_⟩
    · unfold impl_LeastParts.f impl_Table_leastParts.f
      rw [(dec k (by omega)).1]
      simp only [Option.bind_some, if_true]
      have := leastParts_l0 r c ms h1 h2 h3 h4 h5 h64 e9 4 1 k (by omega) (by omega)
      rw [show ((1 : Nat) : Int) = 1 from rfl] at this
      rw [this]
      rfl
    · unfold spec_LeastParts.f
      rw [(dec k (by omega)).2]
      simp only [Option.bind_some, if_true]
      exact leastPartsS_l0 r c ms h1 h2 h3 h4 h5 h64 e9 4 1 k (by omega) (by omega) (by omega)
theorem FnExactLeastParts : laws_FnExactLeastParts.Pure := by
  intro R C M _ _ hm _
  by_cases h : M.length ≤ 1048576
  · refine ⟨M.length + 4000, ?_⟩
    obtain ⟨y, z, hI, hS⟩ := leastParts_both R C M h
    unfold laws_FnExactLeastParts.f
    rw [szTable_eq R C M hm, if_pos h]
    simp only [Option.bind_some]
    rw [if_neg (by omega)]
    repeat (first
      | (rw [toTable_k R C M h _ (by omega)]; simp only [Option.bind_some])
      | (rw [hS _ (by omega)]; simp only [Option.bind_some])
      | (rw [hI _ (by omega)]; simp only [Option.bind_some])
      | (rw [eqTable_k _ _ _ (by omega) _ (by omega)]; simp only [Option.bind_some])
      | (simp only [if_true, Bool.false_eq_true, if_false, bne_self_eq_false, if_pos rfl]; done)
      | (rw [laws_FnExactLeastParts.j0]; simp only [Bool.false_eq_true, if_false, if_true])
      | (simp only [if_true, Bool.false_eq_true, if_false, bne_self_eq_false]))
  · refine ⟨1, ?_⟩
    unfold laws_FnExactLeastParts.f
    rw [szTable_eq R C M hm, if_neg h]
    simp

end Go.Proofs.Ytpippjgphndjmaa.Pure
