-- Written by a program of this session's (wip/myprint2): the functions by the kit's print, the walks by awgen.py. Lean checks it.
import Derived.Test.YtboaffpfphkneaaPFnExactMeetOfBiordersx0
namespace Go.Proofs.Ytboaffpfphkneaa.PFnExactMeetOfBiorders
open Go.RowKit Go.Proofs.YtboaffpfphkneaaW.PrintWords Go.Proofs.YtboaffpfphkneaaW.PrintLast Go.Proofs.YtboaffpfphkneaaW.PrintMore Go.Proofs.YtboaffpfphkneaaM Go.Proofs.YtboaffpfphkneaaA
attribute [local go_sem] max2_int min2_int max_two min_two max_three min_three max_four min_four   -- for this text's walks alone
set_option linter.unusedVariables false
set_option linter.unusedSimpArgs false

/-! ### laws_szIntS: function 13 -/
def laws_szIntS.f (l0 : List Int) (a1 : Int) : Option (Int) := if (wrap64 (a1 - (l0.length : Int))) < 0 then (some (-1)) else (some (wrap64 (a1 - (l0.length : Int))))
set_option maxRecDepth 100000 in
set_option maxHeartbeats 20000000 in
theorem laws_szIntS.ac (l0 : List Int) (a1 : Int) (r : Int) (h : laws_szIntS.f l0 a1 = some r) :
  ACalls Try.prog 13 [.row 1 l0.length false (ints .i64 l0), .lit (.int .i64 a1)] [] (fun v H' => v = .lit (.int .i64 r) ∧ H' = []) := by
 refine ACalls.ofP [4] Try.func13 rfl (by exact Nat.le_of_ble_eq_true rfl) rfl (by decide) ?_
 simp only [Try.ntmps13, env0, laws_szIntS.f] at h ⊢
 refine AWp.seq ?_
 refine AWp.region ?_
 refine L.Y Y.asg ?_
 refine AList.nil ?_
 refine AWp.seq ?_
 refine AWp.region ?_
 refine L.Y Y.mv ?_
 refine L.Y Y.mv ?_
 refine L.Y (Y.ln Try.underlying22) ?_
 refine L.Y Y.bin ?_
 refine L.Y Y.asg ?_
 refine AList.nil ?_
 refine AWp.seq ?_
 refine AWp.seq ?_
 refine W.kp [0, 1, 4] ?_
 refine AWp.region ?_
 refine L.Y Y.mv ?_
 refine L.Y Y.bin ?_
 refine AList.nil ?_
 refine W.cond (fun hb => ?_) (fun hb => ?_)
 ·
  have hb1 := hb
  try simp only [hS, hE, ne_eq] at hb
  first | rw [if_pos hb1] at h | rw [if_neg (Bool.eq_false_iff.1 hb1)] at h | rw [if_pos hb] at h | rw [if_neg hb] at h | (simp only [hb, hT, reduceIte] at h) | skip
  refine AWp.seq ?_
  refine AWp.region ?_
  refine L.Y Y.asg ?_
  refine AList.nil ?_
  obtain rfl := Option.some.inj h
  refine AWp.ret ?_
  exact ⟨.inr rfl, [(4, _)], _, ⟨rfl, rfl⟩, IsPart.at [] [] base0 .nil (E.c .nil)⟩
 ·
  have hb1 := hb
  try simp only [hS, hE, ne_eq] at hb
  first | rw [if_pos hb1] at h | rw [if_neg (Bool.eq_false_iff.1 hb1)] at h | rw [if_pos hb] at h | rw [if_neg hb] at h | (simp only [hb, hT, reduceIte] at h) | skip
  refine AWp.skip ?_
  refine AWp.seq ?_
  refine AWp.region ?_
  refine L.Y Y.mv ?_
  refine L.Y Y.asg ?_
  refine AList.nil ?_
  obtain rfl := Option.some.inj h
  refine AWp.ret ?_
  exact ⟨.inr rfl, [(4, _)], _, ⟨rfl, rfl⟩, IsPart.at [] [] base0 .nil (E.c .nil)⟩

/-! ### laws_szTable: function 4 -/
def laws_szTable.f (a0_0 : Int) (a0_1 : Int) (l0_2 : List Int) (a1 : Int) : Option (Int) := (laws_szIntS.f l0_2 a1).bind fun t102 => (if t102 < 0 then (some (-1)) else (some t102))
set_option maxRecDepth 100000 in
set_option maxHeartbeats 20000000 in
theorem laws_szTable.ac (a0_0 : Int) (a0_1 : Int) (l0_2 : List Int) (a1 : Int) (r : Int) (h : laws_szTable.f a0_0 a0_1 l0_2 a1 = some r) :
  ACalls Try.prog 4 [.agg [.lit (.int .i64 a0_0), .lit (.int .i64 a0_1), .row 1 l0_2.length false (ints .i64 l0_2)], .lit (.int .i64 a1)] [] (fun v H' => v = .lit (.int .i64 r) ∧ H' = []) := by
 refine ACalls.ofP [4] Try.func4 rfl (by exact Nat.le_of_ble_eq_true rfl) rfl (by decide) ?_
 simp only [Try.ntmps4, env0, laws_szTable.f] at h ⊢
 refine AWp.seq ?_
 refine AWp.region ?_
 refine L.M M.bx ?_
 refine L.Y Y.asg ?_
 refine AList.nil ?_
 refine AWp.seq ?_
 refine AWp.region ?_
 refine L.Y (Y.fa (off := 2) Try.underlying24 Y22) ?_
 refine L.S (S.ld Try.underlying22) ?_
 refine L.Y Y.mv ?_
 replace h := Option.bind_eq_some_iff.1 h
 obtain ⟨t102, hc1, h⟩ := h
 refine L.C (C.callE (l := true) [] Try.func13 (laws_szIntS.ac _ _ _ hc1) .nil ?_)
 refine L.Y Y.asg ?_
 refine AList.nil ?_
 refine AWp.seq ?_
 refine AWp.seq ?_
 refine W.kp [0, 1, 2, 4] ?_
 refine AWp.region ?_
 refine L.Y Y.mv ?_
 refine L.Y Y.bin ?_
 refine AList.nil ?_
 refine W.cond (fun hb => ?_) (fun hb => ?_)
 ·
  have hb2 := hb
  try simp only [hS, hE, ne_eq] at hb
  first | rw [if_pos hb2] at h | rw [if_neg (Bool.eq_false_iff.1 hb2)] at h | rw [if_pos hb] at h | rw [if_neg hb] at h | (simp only [hb, hT, reduceIte] at h) | skip
  refine AWp.seq ?_
  refine AWp.region ?_
  refine L.Y Y.asg ?_
  refine AList.nil ?_
  obtain rfl := Option.some.inj h
  refine AWp.ret ?_
  exact ⟨.inr rfl, [(4, _)], _, ⟨rfl, rfl⟩, IsPart.at [] [] base0 .nil (E.c .nil)⟩
 ·
  have hb2 := hb
  try simp only [hS, hE, ne_eq] at hb
  first | rw [if_pos hb2] at h | rw [if_neg (Bool.eq_false_iff.1 hb2)] at h | rw [if_pos hb] at h | rw [if_neg hb] at h | (simp only [hb, hT, reduceIte] at h) | skip
  refine AWp.skip ?_
  refine AWp.seq ?_
  refine AWp.region ?_
  refine L.Y Y.mv ?_
  refine L.Y Y.asg ?_
  refine AList.nil ?_
  obtain rfl := Option.some.inj h
  refine AWp.ret ?_
  exact ⟨.inr rfl, [(4, _)], _, ⟨rfl, rfl⟩, IsPart.at [] [] base0 .nil (E.c .nil)⟩

/-! ### spec_orHas: function 31 -/
def spec_orHas.f (a0 : Int) (a1 : Int) : Option (Bool) := if 0 ≤ a1 then (some ((Int.tmod (shr .i64 a0 a1) 2) == 1)) else (none)
set_option maxRecDepth 100000 in
set_option maxHeartbeats 20000000 in
theorem spec_orHas.ac (a0 : Int) (a1 : Int) (r : Bool) (h : spec_orHas.f a0 a1 = some r) :
  ACalls Try.prog 31 [.lit (.int .i64 a0), .lit (.int .i64 a1)] [] (fun v H' => v = .lit (.bool r) ∧ H' = []) := by
 refine ACalls.ofP [4] Try.func31 rfl (by exact Nat.le_of_ble_eq_true rfl) rfl (by decide) ?_
 simp only [Try.ntmps31, env0, spec_orHas.f] at h ⊢
 repeat (first | (rw [iN] at h; obtain ⟨_, h⟩ := h) | (rw [iP] at h; obtain ⟨_, h⟩ := h) | (simp only [bS] at h))
 refine AWp.seq ?_
 refine AWp.region ?_
 refine L.Y Y.asg ?_
 refine AList.nil ?_
 refine AWp.seq ?_
 refine AWp.region ?_
 refine L.Y Y.mv ?_
 refine L.Y Y.mv ?_
 refine L.Y Y.bin ?_
 refine L.Y Y.bin ?_
 refine L.Y Y.bin ?_
 refine L.Y Y.asg ?_
 refine AList.nil ?_
 obtain rfl := Option.some.inj h
 refine AWp.ret ?_
 exact ⟨.inr rfl, [(4, _)], _, ⟨rfl, rfl⟩, IsPart.at [] [] base0 .nil (E.c .nil)⟩

/-! ### spec_feEmpty: function 15 -/
mutual
def spec_feEmpty.l0 : Nat → List Int → List Int → Int → Int → Int → Int → List Int → Option (List Int)
 | 0, _, _, _, _, _, _, _ => none
 | k + 1, x3, x8, x9, x10, x104000, x104001, x104002 => if x10 < x9 then (if 0 ≤ x10 then (if x10 < (x8.length : Int) then (spec_feEmpty.l1 k x3 x10 (rd x8 x10) 0 x8 x9 x10 x104000 x104001 x104002) else (none)) else (none)) else (some x3)
def spec_feEmpty.l1 : Nat → List Int → Int → Int → Int → List Int → Int → Int → Int → Int → List Int → Option (List Int)
 | 0, _, _, _, _, _, _, _, _, _, _ => none
 | k + 1, x3, x4, x5, x6, x8, x9, x10, x104000, x104001, x104002 => if x6 < x104001 then ((spec_orHas.f x5 x6).bind fun t105 => (if t105 = true then (spec_feEmpty.l1 k x3 x4 x5 (wrap64 (x6 + 1)) x8 x9 x10 x104000 x104001 x104002) else (if x3.length < 17592186044416 then (spec_feEmpty.l1 k (x3 ++ [wrap64 ((wrap64 (x4 * x104001)) + x6)]) x4 x5 (wrap64 (x6 + 1)) x8 x9 x10 x104000 x104001 x104002) else (none)))) else (spec_feEmpty.l0 k x3 x8 x9 (wrap64 (x10 + 1)) x104000 x104001 x104002)
end
def spec_feEmpty.f (k : Nat) (a0_0 : Int) (a0_1 : Int) (l0_2 : List Int) : Option (List Int) := spec_feEmpty.l0 k ([] : List Int) l0_2 (l0_2.length : Int) 0 a0_0 a0_1 l0_2
set_option maxRecDepth 100000 in
set_option maxHeartbeats 20000000 in
theorem spec_feEmpty.ac (k : Nat) (a0_0 : Int) (a0_1 : Int) (l0_2 : List Int) (r : List Int) (h : spec_feEmpty.f k a0_0 a0_1 l0_2 = some r) :
  ACalls Try.prog 15 [.agg [.lit (.int .i64 a0_0), .lit (.int .i64 a0_1), .row 1 l0_2.length false (ints .i64 l0_2)]] [] (fun v H' => v = .own 0 r.length ∧ H' = [.sl 3 1 r.length false (ints .i64 r)]) := by
 refine ACalls.ofP [2] Try.func15 rfl (by exact Nat.le_of_ble_eq_true rfl) rfl (by decide) ?_
 simp only [Try.ntmps15, env0, spec_feEmpty.f] at h ⊢
 refine AWp.seq ?_
 refine AWp.region ?_
 refine L.M M.bx ?_
 refine L.Y Y.asg ?_
 refine AList.nil ?_
 refine AWp.seq ?_
 refine AWp.region ?_
 refine L.Y Y.asg ?_
 refine AList.nil ?_
 refine AWp.seq ?_
 refine AWp.seq ?_
 refine AWp.region ?_
 refine L.Y (Y.fa (off := 2) Try.underlying29 Y22) ?_
 refine L.S (S.ld Try.underlying22) ?_
 refine L.Y (Y.ln Try.underlying22) ?_
 refine L.Y Y.mv ?_
 refine AList.nil ?_
 refine AWp.block ?_
 refine AWp.loopI (fun kk e H => kk ≤ k ∧ ∃ (x3 : List Int) (x9 : Int) (x10 : Int) (x104000 : Int) (x104001 : Int), e = [(1, .ptr 0 0), (2, .lit (.slice none 0 0)), (3, .own 1 x3.length), (8, .row 1 l0_2.length false (ints .i64 l0_2)), (9, .lit (.int .i64 x9)), (10, .lit (.int .i64 x10))] ∧ H = [.bx 29 [.lit (.int .i64 x104000), .lit (.int .i64 x104001), .row 1 l0_2.length false (ints .i64 l0_2)], .sl 3 1 x3.length false (ints .i64 x3)] ∧ spec_feEmpty.l0 kk x3 l0_2 x9 x10 x104000 x104001 l0_2 = some r) (k := k)
  ⟨_, _, ⟨Nat.le_refl _, _, _, _, _, _, rfl, rfl, h⟩, IsPart.at [(3, 1)] [0, 1] base0 (H.c (H.c .nil)) (E.c (E.c (E.c (E.c (E.c (E.c .nil))))))⟩ ?_
 clear h
 rintro k1 e H ⟨hk2, x3, x9, x10, x104000, x104001, rfl, rfl, h⟩
 cases k1 with
 | zero => exact absurd h (by simp [spec_feEmpty.l0])
 | succ k1 =>
 simp only [spec_feEmpty.l0] at h
 refine AWp.seq ?_
 refine AWp.region ?_
 refine L.Y Y.bin ?_
 refine AList.nil ?_
 refine AWp.seq ?_
 refine W.cond (fun hb => ?_) (fun hb => ?_)
 ·
  have hb3 := hb
  try simp only [hS, hE, ne_eq] at hb
  first | rw [if_pos hb3] at h | rw [if_neg (Bool.eq_false_iff.1 hb3)] at h | rw [if_pos hb] at h | rw [if_neg hb] at h | (simp only [hb, hT, reduceIte] at h) | skip
  repeat (first | (rw [iN] at h; obtain ⟨_, h⟩ := h) | (rw [iP] at h; obtain ⟨_, h⟩ := h) | (simp only [bS] at h))
  refine AWp.skip ?_
  refine AWp.seq ?_
  refine AWp.block ?_
  refine AWp.seq ?_
  refine AWp.region ?_
  refine L.Y Y.mv ?_
  refine L.Y (Y.ixr Try.underlying22 Y3) ?_
  refine L.S (S.ld Try.underlying3) ?_
  refine L.Y Y.asg ?_
  refine L.Y Y.asg ?_
  refine AList.nil ?_
  refine AWp.seq ?_
  refine AWp.region ?_
  refine L.Y Y.asg ?_
  refine AList.nil ?_
  refine AWp.block ?_
  refine AWp.loopI (fun kk e H => kk ≤ k1 ∧ ∃ (x3 : List Int) (x4 : Int) (x5 : Int) (x6 : Int) (x9 : Int) (x10 : Int) (x104000 : Int) (x104001 : Int), e = [(1, .ptr 0 0), (2, .lit (.slice none 0 0)), (3, .own 1 x3.length), (4, .lit (.int .i64 x4)), (5, .lit (.int .i64 x5)), (6, .lit (.int .i64 x6)), (8, .row 1 l0_2.length false (ints .i64 l0_2)), (9, .lit (.int .i64 x9)), (10, .lit (.int .i64 x10))] ∧ H = [.bx 29 [.lit (.int .i64 x104000), .lit (.int .i64 x104001), .row 1 l0_2.length false (ints .i64 l0_2)], .sl 3 1 x3.length false (ints .i64 x3)] ∧ spec_feEmpty.l1 kk x3 x4 x5 x6 l0_2 x9 x10 x104000 x104001 l0_2 = some r) (k := k1)
   ⟨_, _, ⟨Nat.le_refl _, _, _, _, _, _, _, _, _, rfl, rfl, h⟩, IsPart.at [] [0, 1] base0 (H.c (H.c .nil)) (E.c (E.c (E.c (E.c (E.c (E.c (E.c (E.c (E.c .nil)))))))))⟩ ?_
  clear h
  rintro k4 e H ⟨hk5, x3, x4, x5, x6, x9, x10, x104000, x104001, rfl, rfl, h⟩
  cases k4 with
  | zero => exact absurd h (by simp [spec_feEmpty.l1])
  | succ k4 =>
  simp only [spec_feEmpty.l1] at h
  refine AWp.seq ?_
  refine AWp.seq ?_
  refine AWp.region ?_
  refine L.Y Y.mv ?_
  refine L.Y (Y.fa (off := 1) Try.underlying29 Y3) ?_
  refine L.S (S.ld Try.underlying3) ?_
  refine L.Y Y.bin ?_
  refine AList.nil ?_
  refine W.cond (fun hb => ?_) (fun hb => ?_)
  ·
   have hb6 := hb
   try simp only [hS, hE, ne_eq] at hb
   first | rw [if_pos hb6] at h | rw [if_neg (Bool.eq_false_iff.1 hb6)] at h | rw [if_pos hb] at h | rw [if_neg hb] at h | (simp only [hb, hT, reduceIte] at h) | skip
   refine AWp.skip ?_
   refine AWp.seq ?_
   refine AWp.block ?_
   refine AWp.seq ?_
   refine AWp.region ?_
   refine L.Y Y.mv ?_
   refine L.Y Y.mv ?_
   replace h := Option.bind_eq_some_iff.1 h
   obtain ⟨t105, hc7, h⟩ := h
   refine L.C (C.callE (l := true) [] Try.func31 (spec_orHas.ac _ _ _ hc7) .nil ?_)
   refine L.Y Y.nt ?_
   refine AList.nil ?_
   refine W.cond (fun hb => ?_) (fun hb => ?_)
   ·
    have hb8 := hb
    try simp only [hS, hE, ne_eq] at hb
    first | rw [if_pos hb8] at h | rw [if_neg (Bool.eq_false_iff.1 hb8)] at h | rw [if_pos hb] at h | rw [if_neg hb] at h | (simp only [hb, hT, reduceIte] at h) | skip
    repeat (first | (rw [iN] at h; obtain ⟨_, h⟩ := h) | (rw [iP] at h; obtain ⟨_, h⟩ := h) | (simp only [bS] at h))
    refine W.kp [1, 2, 3, 4, 5, 6, 8, 9, 10, 18, 24] ?_
    refine AWp.region ?_
    refine L.Y Y.mv ?_
    refine L.Y Y.mv ?_
    refine L.Y (Y.fa (off := 1) Try.underlying29 Y3) ?_
    refine L.S (S.ld Try.underlying3) ?_
    refine L.Y Y.bin ?_
    refine L.Y Y.mv ?_
    refine L.Y Y.bin ?_
    refine L.M (M.bs Try.underlying22 Y3) ?_
    refine L.S (S.ap (nn' := false) Try.underlying22 Y3) ?_
    refine L.Y Y.asg ?_
    refine AList.nil ?_
    refine W.kp [1, 2, 3, 4, 5, 6, 8, 9, 10, 18, 24] ?_
    refine AWp.region ?_
    refine L.Y Y.mv ?_
    refine L.Y Y.bin ?_
    refine L.Y Y.asg ?_
    refine AList.nil ?_
    exact ⟨k4, by omega, _, _, ⟨by omega, _, _, _, _, _, _, _, _, rfl, rfl, h⟩, IsPart.at [] [0, 1] base0 (H.c (H.c .nil)) (E.c (E.c (E.c (E.c (E.c (E.c (E.c (E.c (E.c .nil)))))))))⟩
   ·
    have hb8 := hb
    try simp only [hS, hE, ne_eq] at hb
    first | rw [if_pos hb8] at h | rw [if_neg (Bool.eq_false_iff.1 hb8)] at h | rw [if_pos hb] at h | rw [if_neg hb] at h | (simp only [hb, hT, reduceIte] at h) | skip
    refine AWp.skip ?_
    refine W.kp [1, 2, 3, 4, 5, 6, 8, 9, 10, 18, 24] ?_
    refine AWp.region ?_
    refine L.Y Y.mv ?_
    refine L.Y Y.bin ?_
    refine L.Y Y.asg ?_
    refine AList.nil ?_
    exact ⟨k4, by omega, _, _, ⟨by omega, _, _, _, _, _, _, _, _, rfl, rfl, h⟩, IsPart.at [] [0, 1] base0 (H.c (H.c .nil)) (E.c (E.c (E.c (E.c (E.c (E.c (E.c (E.c (E.c .nil)))))))))⟩
  ·
   have hb6 := hb
   try simp only [hS, hE, ne_eq] at hb
   first | rw [if_pos hb6] at h | rw [if_neg (Bool.eq_false_iff.1 hb6)] at h | rw [if_pos hb] at h | rw [if_neg hb] at h | (simp only [hb, hT, reduceIte] at h) | skip
   refine AWp.exit ?_
   refine AWp.region ?_
   refine L.Y Y.bin ?_
   refine L.Y Y.mv ?_
   refine AList.nil ?_
   exact ⟨k4, by omega, _, _, ⟨by omega, _, _, _, _, _, rfl, rfl, h⟩, IsPart.at [] [0, 1] base0 (H.c (H.c .nil)) (E.c (E.c (E.c (E.c (E.c (E.c .nil))))))⟩
 ·
  have hb3 := hb
  try simp only [hS, hE, ne_eq] at hb
  first | rw [if_pos hb3] at h | rw [if_neg (Bool.eq_false_iff.1 hb3)] at h | rw [if_pos hb] at h | rw [if_neg hb] at h | (simp only [hb, hT, reduceIte] at h) | skip
  refine AWp.exit ?_
  refine AWp.seq ?_
  refine AWp.region ?_
  refine L.Y Y.mv ?_
  refine L.Y Y.asg ?_
  refine AList.nil ?_
  obtain rfl := Option.some.inj h
  refine AWp.ret ?_
  exact ⟨.inr rfl, [(2, _)], _, ⟨rfl, rfl⟩, IsPart.at [] [1] base0 (H.c .nil) (E.c .nil)⟩

/-! ### spec_l1Has: function 33 -/
def spec_l1Has.l0 : Nat → Int → List Int → Int → Int → Option (Bool)
 | 0, _, _, _, _ => none
 | k + 1, x1, x7, x8, x9 => if x9 < x8 then (if 0 ≤ x9 then (if x9 < (x7.length : Int) then (if (rd x7 x9) = x1 then (some true) else (spec_l1Has.l0 k x1 x7 x8 (wrap64 (x9 + 1)))) else (none)) else (none)) else (some false)
def spec_l1Has.f (k : Nat) (l0 : List Int) (a1 : Int) : Option (Bool) := spec_l1Has.l0 k a1 l0 (l0.length : Int) 0
set_option maxRecDepth 100000 in
set_option maxHeartbeats 20000000 in
theorem spec_l1Has.ac (k : Nat) (l0 : List Int) (a1 : Int) (r : Bool) (h : spec_l1Has.f k l0 a1 = some r) :
  ACalls Try.prog 33 [.row 1 l0.length false (ints .i64 l0), .lit (.int .i64 a1)] [] (fun v H' => v = .lit (.bool r) ∧ H' = []) := by
 refine ACalls.ofP [4] Try.func33 rfl (by exact Nat.le_of_ble_eq_true rfl) rfl (by decide) ?_
 simp only [Try.ntmps33, env0, spec_l1Has.f] at h ⊢
 refine AWp.seq ?_
 refine AWp.region ?_
 refine L.Y Y.asg ?_
 refine AList.nil ?_
 refine AWp.seq ?_
 refine AWp.seq ?_
 refine AWp.region ?_
 refine L.Y Y.mv ?_
 refine L.Y (Y.ln Try.underlying22) ?_
 refine L.Y Y.mv ?_
 refine AList.nil ?_
 refine AWp.block ?_
 refine AWp.loopI (fun kk e H => kk ≤ k ∧ ∃ (x1 : Int) (x8 : Int) (x9 : Int), e = [(1, .lit (.int .i64 x1)), (7, .row 1 l0.length false (ints .i64 l0)), (8, .lit (.int .i64 x8)), (9, .lit (.int .i64 x9))] ∧ H = [] ∧ spec_l1Has.l0 kk x1 l0 x8 x9 = some r) (k := k)
  ⟨_, _, ⟨Nat.le_refl _, _, _, _, rfl, rfl, h⟩, IsPart.at [] [] base0 .nil (E.c (E.c (E.c (E.c .nil))))⟩ ?_
 clear h
 rintro k1 e H ⟨hk2, x1, x8, x9, rfl, rfl, h⟩
 cases k1 with
 | zero => exact absurd h (by simp [spec_l1Has.l0])
 | succ k1 =>
 simp only [spec_l1Has.l0] at h
 refine AWp.seq ?_
 refine AWp.region ?_
 refine L.Y Y.bin ?_
 refine AList.nil ?_
 refine AWp.seq ?_
 refine W.cond (fun hb => ?_) (fun hb => ?_)
 ·
  have hb3 := hb
  try simp only [hS, hE, ne_eq] at hb
  first | rw [if_pos hb3] at h | rw [if_neg (Bool.eq_false_iff.1 hb3)] at h | rw [if_pos hb] at h | rw [if_neg hb] at h | (simp only [hb, hT, reduceIte] at h) | skip
  repeat (first | (rw [iN] at h; obtain ⟨_, h⟩ := h) | (rw [iP] at h; obtain ⟨_, h⟩ := h) | (simp only [bS] at h))
  refine AWp.skip ?_
  refine AWp.seq ?_
  refine AWp.block ?_
  refine AWp.seq ?_
  refine AWp.region ?_
  refine L.Y (Y.ixr Try.underlying22 Y3) ?_
  refine L.S (S.ld Try.underlying3) ?_
  refine L.Y Y.asg ?_
  refine AList.nil ?_
  refine AWp.seq ?_
  refine AWp.region ?_
  refine L.Y Y.mv ?_
  refine L.Y Y.mv ?_
  refine L.Y Y.bin ?_
  refine AList.nil ?_
  refine W.cond (fun hb => ?_) (fun hb => ?_)
  ·
   have hb4 := hb
   try simp only [hS, hE, ne_eq] at hb
   first | rw [if_pos hb4] at h | rw [if_neg (Bool.eq_false_iff.1 hb4)] at h | rw [if_pos hb] at h | rw [if_neg hb] at h | (simp only [hb, hT, reduceIte] at h) | skip
   refine AWp.seq ?_
   refine W.kp [1, 6, 7, 8, 9, 10, 15] ?_
   refine AWp.region ?_
   refine L.Y Y.asg ?_
   refine AList.nil ?_
   obtain rfl := Option.some.inj h
   refine AWp.ret ?_
   exact ⟨.inr rfl, [(4, _)], _, ⟨rfl, rfl⟩, IsPart.at [] [] base0 .nil (E.c .nil)⟩
  ·
   have hb4 := hb
   try simp only [hS, hE, ne_eq] at hb
   first | rw [if_pos hb4] at h | rw [if_neg (Bool.eq_false_iff.1 hb4)] at h | rw [if_pos hb] at h | rw [if_neg hb] at h | (simp only [hb, hT, reduceIte] at h) | skip
   refine AWp.skip ?_
   refine W.kp [1, 6, 7, 8, 9, 10, 15] ?_
   refine AWp.region ?_
   refine L.Y Y.bin ?_
   refine L.Y Y.mv ?_
   refine AList.nil ?_
   exact ⟨k1, by omega, _, _, ⟨by omega, _, _, _, rfl, rfl, h⟩, IsPart.at [] [] base0 .nil (E.c (E.c (E.c (E.c .nil))))⟩
 ·
  have hb3 := hb
  try simp only [hS, hE, ne_eq] at hb
  first | rw [if_pos hb3] at h | rw [if_neg (Bool.eq_false_iff.1 hb3)] at h | rw [if_pos hb] at h | rw [if_neg hb] at h | (simp only [hb, hT, reduceIte] at h) | skip
  refine AWp.exit ?_
  refine AWp.seq ?_
  refine AWp.region ?_
  refine L.Y Y.asg ?_
  refine AList.nil ?_
  obtain rfl := Option.some.inj h
  refine AWp.ret ?_
  exact ⟨.inr rfl, [(4, _)], _, ⟨rfl, rfl⟩, IsPart.at [] [] base0 .nil (E.c .nil)⟩

/-! ### spec_feOrder: function 17 -/
mutual
def spec_feOrder.l0 : Nat → List Int → List Int → Int → Int → List Int → Option (List Int × Bool)
 | 0, _, _, _, _, _ => none
 | k + 1, x1, x6, x111000, x111001, x111002 => if (x6.length : Int) < x111000 then (spec_feOrder.l1 k x1 x6 (-1) (wrap64 (x111000 - 1)) x111000 x111001 x111002) else (some (x6, true))
def spec_feOrder.l1 : Nat → List Int → List Int → Int → Int → Int → Int → List Int → Option (List Int × Bool)
 | 0, _, _, _, _, _, _, _ => none
 | k + 1, x1, x6, x7, x8, x111000, x111001, x111002 => if x8 ≥ 0 then ((spec_l1Has.f k x6 x8).bind fun t114 => (if t114 = true then (spec_feOrder.l1 k x1 x6 x7 (wrap64 (x8 - 1)) x111000 x111001 x111002) else (spec_feOrder.l2 k x1 x6 x7 x8 true x1 (x1.length : Int) 0 x111000 x111001 x111002))) else (if x7 < 0 then (some (([] : List Int), false)) else (if x6.length < 17592186044416 then (spec_feOrder.l0 k x1 (x6 ++ [x7]) x111000 x111001 x111002) else (none)))
def spec_feOrder.l2 : Nat → List Int → List Int → Int → Int → Bool → List Int → Int → Int → Int → Int → List Int → Option (List Int × Bool)
 | 0, _, _, _, _, _, _, _, _, _, _, _ => none
 | k + 1, x1, x6, x7, x8, x9, x28, x29, x30, x111000, x111001, x111002 => if x30 < x29 then (if 0 ≤ x30 then (if x30 < (x28.length : Int) then (if x111001 = 0 then (none) else ((spec_l1Has.f k x6 (wrap64 (Int.tdiv (rd x28 x30) x111001))).bind fun t116 => (if t116 = true then (spec_feOrder.l2 k x1 x6 x7 x8 x9 x28 x29 (wrap64 (x30 + 1)) x111000 x111001 x111002) else (if 0 ≤ x8 then (if x8 < (x111002.length : Int) then ((spec_orHas.f (rd x111002 x8) (Int.tmod (rd x28 x30) x111001)).bind fun t118 => (if t118 = true then (spec_feOrder.l2 k x1 x6 x7 x8 false x28 x29 (wrap64 (x30 + 1)) x111000 x111001 x111002) else (spec_feOrder.l2 k x1 x6 x7 x8 x9 x28 x29 (wrap64 (x30 + 1)) x111000 x111001 x111002))) else (none)) else (none))))) else (none)) else (none)) else (if x9 = true then (spec_feOrder.l1 k x1 x6 x8 (wrap64 (x8 - 1)) x111000 x111001 x111002) else (spec_feOrder.l1 k x1 x6 x7 (wrap64 (x8 - 1)) x111000 x111001 x111002))
end
def spec_feOrder.f (k : Nat) (a0_0 : Int) (a0_1 : Int) (l0_2 : List Int) (l1 : List Int) : Option (List Int × Bool) := spec_feOrder.l0 k l1 ([] : List Int) a0_0 a0_1 l0_2
set_option maxRecDepth 100000 in
set_option maxHeartbeats 20000000 in
theorem spec_feOrder.ac (k : Nat) (a0_0 : Int) (a0_1 : Int) (l0_2 : List Int) (l1 : List Int) (r1 : List Int) (r2 : Bool) (h : spec_feOrder.f k a0_0 a0_1 l0_2 l1 = some (r1, r2)) :
  ACalls Try.prog 17 [.agg [.lit (.int .i64 a0_0), .lit (.int .i64 a0_1), .row 1 l0_2.length false (ints .i64 l0_2)], .row 1 l1.length false (ints .i64 l1)] [] (fun v H' => v = .tup [.own 0 r1.length, .lit (.bool r2)] ∧ H' = [.sl 3 1 r1.length false (ints .i64 r1)]) := by
 refine ACalls.ofP [4, 5] Try.func17 rfl (by exact Nat.le_of_ble_eq_true rfl) rfl (by decide) ?_
 simp only [Try.ntmps17, env0, spec_feOrder.f] at h ⊢
 refine AWp.seq ?_
 refine AWp.region ?_
 refine L.M M.bx ?_
 refine L.Y Y.asg ?_
 refine L.Y Y.asg ?_
 refine AList.nil ?_
 refine AWp.seq ?_
 refine AWp.region ?_
 refine L.Y Y.asg ?_
 refine AList.nil ?_
 refine AWp.seq ?_
 refine AWp.block ?_
 refine AWp.loopI (fun kk e H => kk ≤ k ∧ ∃ (x6 : List Int) (x111000 : Int) (x111001 : Int), e = [(1, .row 1 l1.length false (ints .i64 l1)), (2, .ptr 0 0), (6, .own 1 x6.length)] ∧ H = [.bx 29 [.lit (.int .i64 x111000), .lit (.int .i64 x111001), .row 1 l0_2.length false (ints .i64 l0_2)], .sl 3 1 x6.length false (ints .i64 x6)] ∧ spec_feOrder.l0 kk l1 x6 x111000 x111001 l0_2 = some (r1, r2)) (k := k)
  ⟨_, _, ⟨Nat.le_refl _, _, _, _, rfl, rfl, h⟩, IsPart.at [(3, 1)] [0, 1] base0 (H.c (H.c .nil)) (E.c (E.c (E.c .nil)))⟩ ?_
 clear h
 rintro k1 e H ⟨hk2, x6, x111000, x111001, rfl, rfl, h⟩
 cases k1 with
 | zero => exact absurd h (by simp [spec_feOrder.l0])
 | succ k1 =>
 simp only [spec_feOrder.l0] at h
 refine AWp.seq ?_
 refine AWp.seq ?_
 refine AWp.region ?_
 refine L.Y Y.mv ?_
 refine L.Y (Y.ln Try.underlying22) ?_
 refine L.Y (Y.fa (off := 0) Try.underlying29 Y3) ?_
 refine L.S (S.ld Try.underlying3) ?_
 refine L.Y Y.bin ?_
 refine AList.nil ?_
 refine W.cond (fun hb => ?_) (fun hb => ?_)
 ·
  have hb3 := hb
  try simp only [hS, hE, ne_eq] at hb
  first | rw [if_pos hb3] at h | rw [if_neg (Bool.eq_false_iff.1 hb3)] at h | rw [if_pos hb] at h | rw [if_neg hb] at h | (simp only [hb, hT, reduceIte] at h) | skip
  refine AWp.skip ?_
  refine AWp.block ?_
  refine AWp.seq ?_
  refine W.kp [1, 2, 6, 17] ?_
  refine AWp.region ?_
  refine L.Y Y.asg ?_
  refine AList.nil ?_
  refine AWp.seq ?_
  refine AWp.seq ?_
  refine AWp.region ?_
  refine L.Y (Y.fa (off := 0) Try.underlying29 Y3) ?_
  refine L.S (S.ld Try.underlying3) ?_
  refine L.Y Y.bin ?_
  refine L.Y Y.asg ?_
  refine AList.nil ?_
  refine AWp.block ?_
  refine AWp.loopI (fun kk e H => kk ≤ k1 ∧ ∃ (x6 : List Int) (x7 : Int) (x8 : Int) (x111000 : Int) (x111001 : Int), e = [(1, .row 1 l1.length false (ints .i64 l1)), (2, .ptr 0 0), (6, .own 1 x6.length), (7, .lit (.int .i64 x7)), (8, .lit (.int .i64 x8))] ∧ H = [.bx 29 [.lit (.int .i64 x111000), .lit (.int .i64 x111001), .row 1 l0_2.length false (ints .i64 l0_2)], .sl 3 1 x6.length false (ints .i64 x6)] ∧ spec_feOrder.l1 kk l1 x6 x7 x8 x111000 x111001 l0_2 = some (r1, r2)) (k := k1)
   ⟨_, _, ⟨Nat.le_refl _, _, _, _, _, _, rfl, rfl, h⟩, IsPart.at [] [0, 1] base0 (H.c (H.c .nil)) (E.c (E.c (E.c (E.c (E.c .nil)))))⟩ ?_
  clear h
  rintro k4 e H ⟨hk5, x6, x7, x8, x111000, x111001, rfl, rfl, h⟩
  cases k4 with
  | zero => exact absurd h (by simp [spec_feOrder.l1])
  | succ k4 =>
  simp only [spec_feOrder.l1] at h
  refine AWp.seq ?_
  refine AWp.seq ?_
  refine AWp.region ?_
  refine L.Y Y.mv ?_
  refine L.Y Y.bin ?_
  refine AList.nil ?_
  refine W.cond (fun hb => ?_) (fun hb => ?_)
  ·
   have hb6 := hb
   try simp only [hS, hE, ne_eq] at hb
   first | rw [if_pos hb6] at h | rw [if_neg (Bool.eq_false_iff.1 hb6)] at h | rw [if_pos hb] at h | rw [if_neg hb] at h | (simp only [hb, hT, reduceIte] at h) | skip
   refine AWp.skip ?_
   refine AWp.seq ?_
   refine AWp.block ?_
   refine AWp.seq ?_
   refine AWp.seq ?_
   refine AWp.region ?_
   refine L.Y Y.mv ?_
   refine L.Y Y.mv ?_
   replace h := Option.bind_eq_some_iff.1 h
   obtain ⟨t114, hc7, h⟩ := h
   refine L.C (C.callE (l := true) [] Try.func33 (spec_l1Has.ac _ _ _ _ hc7) .nil ?_)
   refine AList.nil ?_
   refine W.cond (fun hb => ?_) (fun hb => ?_)
   ·
    have hb8 := hb
    try simp only [hS, hE, ne_eq] at hb
    first | rw [if_pos hb8] at h | rw [if_neg (Bool.eq_false_iff.1 hb8)] at h | rw [if_pos hb] at h | rw [if_neg hb] at h | (simp only [hb, hT, reduceIte] at h) | skip
    refine AWp.exit ?_
    refine AWp.region ?_
    refine L.Y Y.mv ?_
    refine L.Y Y.bin ?_
    refine L.Y Y.asg ?_
    refine AList.nil ?_
    exact ⟨k4, by omega, _, _, ⟨by omega, _, _, _, _, _, rfl, rfl, h⟩, IsPart.at [] [0, 1] base0 (H.c (H.c .nil)) (E.c (E.c (E.c (E.c (E.c .nil)))))⟩
   ·
    have hb8 := hb
    try simp only [hS, hE, ne_eq] at hb
    first | rw [if_pos hb8] at h | rw [if_neg (Bool.eq_false_iff.1 hb8)] at h | rw [if_pos hb] at h | rw [if_neg hb] at h | (simp only [hb, hT, reduceIte] at h) | skip
    refine AWp.skip ?_
    refine AWp.seq ?_
    refine AWp.region ?_
    refine L.Y Y.asg ?_
    refine AList.nil ?_
    refine AWp.seq ?_
    refine AWp.seq ?_
    refine AWp.region ?_
    refine L.Y Y.mv ?_
    refine L.Y (Y.ln Try.underlying22) ?_
    refine L.Y Y.mv ?_
    refine AList.nil ?_
    refine AWp.block ?_
    refine AWp.loopI (fun kk e H => kk ≤ k4 ∧ ∃ (x6 : List Int) (x7 : Int) (x8 : Int) (x9 : Bool) (x29 : Int) (x30 : Int) (x111000 : Int) (x111001 : Int), e = [(1, .row 1 l1.length false (ints .i64 l1)), (2, .ptr 0 0), (6, .own 1 x6.length), (7, .lit (.int .i64 x7)), (8, .lit (.int .i64 x8)), (9, .lit (.bool x9)), (28, .row 1 l1.length false (ints .i64 l1)), (29, .lit (.int .i64 x29)), (30, .lit (.int .i64 x30))] ∧ H = [.bx 29 [.lit (.int .i64 x111000), .lit (.int .i64 x111001), .row 1 l0_2.length false (ints .i64 l0_2)], .sl 3 1 x6.length false (ints .i64 x6)] ∧ spec_feOrder.l2 kk l1 x6 x7 x8 x9 l1 x29 x30 x111000 x111001 l0_2 = some (r1, r2)) (k := k4)
     ⟨_, _, ⟨Nat.le_refl _, _, _, _, _, _, _, _, _, rfl, rfl, h⟩, IsPart.at [] [0, 1] base0 (H.c (H.c .nil)) (E.c (E.c (E.c (E.c (E.c (E.c (E.c (E.c (E.c .nil)))))))))⟩ ?_
    clear h
    rintro k9 e H ⟨hk10, x6, x7, x8, x9, x29, x30, x111000, x111001, rfl, rfl, h⟩
    cases k9 with
    | zero => exact absurd h (by simp [spec_feOrder.l2])
    | succ k9 =>
    simp only [spec_feOrder.l2] at h
    refine AWp.seq ?_
    refine AWp.region ?_
    refine L.Y Y.bin ?_
    refine AList.nil ?_
    refine AWp.seq ?_
    refine W.cond (fun hb => ?_) (fun hb => ?_)
    ·
     have hb11 := hb
     try simp only [hS, hE, ne_eq] at hb
     first | rw [if_pos hb11] at h | rw [if_neg (Bool.eq_false_iff.1 hb11)] at h | rw [if_pos hb] at h | rw [if_neg hb] at h | (simp only [hb, hT, reduceIte] at h) | skip
     repeat (first | (rw [iN] at h; obtain ⟨_, h⟩ := h) | (rw [iP] at h; obtain ⟨_, h⟩ := h) | (simp only [bS] at h))
     refine AWp.skip ?_
     refine AWp.seq ?_
     refine AWp.block ?_
     refine AWp.seq ?_
     refine AWp.region ?_
     refine L.Y (Y.ixr Try.underlying22 Y3) ?_
     refine L.S (S.ld Try.underlying3) ?_
     refine L.Y Y.asg ?_
     refine AList.nil ?_
     refine AWp.seq ?_
     refine AWp.region ?_
     refine L.Y Y.mv ?_
     refine L.Y (Y.fa (off := 1) Try.underlying29 Y3) ?_
     refine L.S (S.ld Try.underlying3) ?_
     refine L.Y Y.bin ?_
     refine L.Y Y.asg ?_
     refine AList.nil ?_
     refine AWp.seq ?_
     refine W.kp [1, 2, 6, 7, 8, 9, 11, 12, 28, 29, 30, 31] ?_
     refine Dt.reg [] [] (.y 0 (.y 1 (.one 2 (.y 3 (.y 4 (.y 5 (.t 6 (.y 7 (.y 8 (.t 9 (.y 10 (.y 11 (.t 12 (.y 13 (.one 14 (.y 15 .done)))))))))))))))) HM ?_
     refine Dt.Y rfl wantN Y.mv ?_
     refine Dt.Y rfl wantN Y.mv ?_
     refine Dt.O (g' := false) rfl wantN ?_
     replace h := Option.bind_eq_some_iff.1 h
     obtain ⟨t116, hc12, h⟩ := h
     refine Ox.C true [] Try.func33 (spec_l1Has.ac _ _ _ _ hc12) .nil ?_
     refine Dt.Y rfl wantN Y.nt ?_
     refine Dt.Y rfl wantN Y.mv ?_
     refine Dt.F 42 (fun hb => ?_) (fun hb => ?_)
     ·
      have hb13 := hb
      try simp only [hS, hE, ne_eq] at hb
      first | rw [if_pos hb13] at h | rw [if_neg (Bool.eq_false_iff.1 hb13)] at h | rw [if_pos hb] at h | rw [if_neg hb] at h | (simp only [hb, hT, reduceIte] at h) | skip
      repeat (first | (rw [iN] at h; obtain ⟨_, h⟩ := h) | (rw [iP] at h; obtain ⟨_, h⟩ := h) | (simp only [bS] at h))
      refine Dt.Y rfl (wantY hb13) (Y.fa (off := 2) Try.underlying29 Y22) ?_
      refine Dt.T rfl (wantY hb13) (D.ld Try.underlying22) ?_
      refine Dt.Y rfl (wantY hb13) Y.mv ?_
      refine Dt.Y rfl (wantY hb13) (Y.ixr Try.underlying22 Y3) ?_
      refine Dt.T rfl (wantY hb13) (D.ld Try.underlying3) ?_
      refine Dt.Y rfl (wantY hb13) Y.mv ?_
      refine Dt.Y rfl (wantY hb13) (Y.fa (off := 1) Try.underlying29 Y3) ?_
      refine Dt.T rfl (wantY hb13) (D.ld Try.underlying3) ?_
      refine Dt.Y rfl (wantY hb13) Y.bin ?_
      refine Dt.O (g' := false) rfl (wantY hb13) ?_
      replace h := Option.bind_eq_some_iff.1 h
      obtain ⟨t118, hc14, h⟩ := h
      refine Ox.C true [] Try.func31 (spec_orHas.ac _ _ _ hc14) .nil ?_
      refine Dt.Y rfl wantN (Y.pk (c := true) hb13) ?_
      refine Dt.nil ?_
      refine W.cond (fun hb => ?_) (fun hb => ?_)
      ·
       have hb15 := hb
       try simp only [hS, hE, ne_eq] at hb
       first | rw [if_pos hb15] at h | rw [if_neg (Bool.eq_false_iff.1 hb15)] at h | rw [if_pos hb] at h | rw [if_neg hb] at h | (simp only [hb, hT, reduceIte] at h) | skip
       refine W.kp [1, 2, 6, 7, 8, 9, 11, 12, 28, 29, 30, 31, 53] ?_
       refine AWp.region ?_
       refine L.Y Y.asg ?_
       refine AList.nil ?_
       refine AWp.region ?_
       refine L.Y Y.bin ?_
       refine L.Y Y.mv ?_
       refine AList.nil ?_
       exact ⟨k9, by omega, _, _, ⟨by omega, _, _, _, _, _, _, _, _, rfl, rfl, h⟩, IsPart.at [] [0, 1] base0 (H.c (H.c .nil)) (E.c (E.c (E.c (E.c (E.c (E.c (E.c (E.c (E.c .nil)))))))))⟩
      ·
       have hb15 := hb
       try simp only [hS, hE, ne_eq] at hb
       first | rw [if_pos hb15] at h | rw [if_neg (Bool.eq_false_iff.1 hb15)] at h | rw [if_pos hb] at h | rw [if_neg hb] at h | (simp only [hb, hT, reduceIte] at h) | skip
       refine AWp.skip ?_
       refine W.kp [1, 2, 6, 7, 8, 9, 11, 12, 28, 29, 30, 31, 53] ?_
       refine AWp.region ?_
       refine L.Y Y.bin ?_
       refine L.Y Y.mv ?_
       refine AList.nil ?_
       exact ⟨k9, by omega, _, _, ⟨by omega, _, _, _, _, _, _, _, _, rfl, rfl, h⟩, IsPart.at [] [0, 1] base0 (H.c (H.c .nil)) (E.c (E.c (E.c (E.c (E.c (E.c (E.c (E.c (E.c .nil)))))))))⟩
     ·
      have hb13 := hb
      try simp only [hS, hE, ne_eq] at hb
      first | rw [if_pos hb13] at h | rw [if_neg (Bool.eq_false_iff.1 hb13)] at h | rw [if_pos hb] at h | rw [if_neg hb] at h | (simp only [hb, hT, reduceIte] at h) | skip
      refine Dt.No rfl (wantZ hb13) ?_
      refine Dt.Nt rfl (wantZ hb13) ?_
      refine Dt.No rfl (wantZ hb13) ?_
      refine Dt.No rfl (wantZ hb13) ?_
      refine Dt.Nt rfl (wantZ hb13) ?_
      refine Dt.No rfl (wantZ hb13) ?_
      refine Dt.No rfl (wantZ hb13) ?_
      refine Dt.Nt rfl (wantZ hb13) ?_
      refine Dt.No rfl (wantZ hb13) ?_
      refine Dt.Po rfl (wantZ hb13) ?_
      refine Dt.Y rfl wantN (Y.pk (c := false) hb13) ?_
      refine Dt.nil ?_
      refine W.cond (fun hb => ?_) (fun hb => ?_)
      ·
       first | exact Bool.false_ne_true ((Eq.symm (by assumption)).trans hb) | exact Bool.false_ne_true (hb.symm.trans (by assumption)) | exact DD hb
      have hb16 := hb
      refine AWp.skip ?_
      refine W.kp [1, 2, 6, 7, 8, 9, 11, 12, 28, 29, 30, 31, 53] ?_
      refine AWp.region ?_
      refine L.Y Y.bin ?_
      refine L.Y Y.mv ?_
      refine AList.nil ?_
      exact ⟨k9, by omega, _, _, ⟨by omega, _, _, _, _, _, _, _, _, rfl, rfl, h⟩, IsPart.at [] [0, 1] base0 (H.c (H.c .nil)) (E.c (E.c (E.c (E.c (E.c (E.c (E.c (E.c (E.c .nil)))))))))⟩
    ·
     have hb11 := hb
     try simp only [hS, hE, ne_eq] at hb
     first | rw [if_pos hb11] at h | rw [if_neg (Bool.eq_false_iff.1 hb11)] at h | rw [if_pos hb] at h | rw [if_neg hb] at h | (simp only [hb, hT, reduceIte] at h) | skip
     refine AWp.exit ?_
     refine AWp.seq ?_
     refine AWp.region ?_
     refine L.Y Y.mv ?_
     refine AList.nil ?_
     refine W.cond (fun hb => ?_) (fun hb => ?_)
     ·
      have hb17 := hb
      try simp only [hS, hE, ne_eq] at hb
      first | rw [if_pos hb17] at h | rw [if_neg (Bool.eq_false_iff.1 hb17)] at h | rw [if_pos hb] at h | rw [if_neg hb] at h | (simp only [hb, hT, reduceIte] at h) | skip
      refine AWp.region ?_
      refine L.Y Y.mv ?_
      refine L.Y Y.asg ?_
      refine AList.nil ?_
      refine AWp.region ?_
      refine L.Y Y.mv ?_
      refine L.Y Y.bin ?_
      refine L.Y Y.asg ?_
      refine AList.nil ?_
      exact ⟨k9, by omega, _, _, ⟨by omega, _, _, _, _, _, rfl, rfl, h⟩, IsPart.at [] [0, 1] base0 (H.c (H.c .nil)) (E.c (E.c (E.c (E.c (E.c .nil)))))⟩
     ·
      have hb17 := hb
      try simp only [hS, hE, ne_eq] at hb
      first | rw [if_pos hb17] at h | rw [if_neg (Bool.eq_false_iff.1 hb17)] at h | rw [if_pos hb] at h | rw [if_neg hb] at h | (simp only [hb, hT, reduceIte] at h) | skip
      refine AWp.skip ?_
      refine AWp.region ?_
      refine L.Y Y.mv ?_
      refine L.Y Y.bin ?_
      refine L.Y Y.asg ?_
      refine AList.nil ?_
      exact ⟨k9, by omega, _, _, ⟨by omega, _, _, _, _, _, rfl, rfl, h⟩, IsPart.at [] [0, 1] base0 (H.c (H.c .nil)) (E.c (E.c (E.c (E.c (E.c .nil)))))⟩
  ·
   have hb6 := hb
   try simp only [hS, hE, ne_eq] at hb
   first | rw [if_pos hb6] at h | rw [if_neg (Bool.eq_false_iff.1 hb6)] at h | rw [if_pos hb] at h | rw [if_neg hb] at h | (simp only [hb, hT, reduceIte] at h) | skip
   refine AWp.exit ?_
   refine AWp.seq ?_
   refine AWp.seq ?_
   refine AWp.region ?_
   refine L.Y Y.mv ?_
   refine L.Y Y.bin ?_
   refine AList.nil ?_
   refine W.cond (fun hb => ?_) (fun hb => ?_)
   ·
    have hb18 := hb
    try simp only [hS, hE, ne_eq] at hb
    first | rw [if_pos hb18] at h | rw [if_neg (Bool.eq_false_iff.1 hb18)] at h | rw [if_pos hb] at h | rw [if_neg hb] at h | (simp only [hb, hT, reduceIte] at h) | skip
    refine AWp.seq ?_
    refine AWp.region ?_
    refine L.Y Y.asg ?_
    refine L.Y Y.asg ?_
    refine AList.nil ?_
    simp only [Option.some.injEq, Prod.mk.injEq] at h
    obtain ⟨rfl, rfl⟩ := h
    refine AWp.ret ?_
    exact ⟨.inr rfl, [(4, _), (5, _)], _, ⟨rfl, rfl⟩, IsPart.at [(3, 1)] [2] base0 (H.c .nil) (E.c (E.c .nil))⟩
   ·
    have hb18 := hb
    try simp only [hS, hE, ne_eq] at hb
    first | rw [if_pos hb18] at h | rw [if_neg (Bool.eq_false_iff.1 hb18)] at h | rw [if_pos hb] at h | rw [if_neg hb] at h | (simp only [hb, hT, reduceIte] at h) | skip
    repeat (first | (rw [iN] at h; obtain ⟨_, h⟩ := h) | (rw [iP] at h; obtain ⟨_, h⟩ := h) | (simp only [bS] at h))
    refine AWp.skip ?_
    refine AWp.region ?_
    refine L.Y Y.mv ?_
    refine L.Y Y.mv ?_
    refine L.M (M.bs Try.underlying22 Y3) ?_
    refine L.S (S.ap (nn' := false) Try.underlying22 Y3) ?_
    refine L.Y Y.asg ?_
    refine AList.nil ?_
    exact ⟨k4, by omega, _, _, ⟨by omega, _, _, _, rfl, rfl, h⟩, IsPart.at [] [0, 1] base0 (H.c (H.c .nil)) (E.c (E.c (E.c .nil)))⟩
 ·
  have hb3 := hb
  try simp only [hS, hE, ne_eq] at hb
  first | rw [if_pos hb3] at h | rw [if_neg (Bool.eq_false_iff.1 hb3)] at h | rw [if_pos hb] at h | rw [if_neg hb] at h | (simp only [hb, hT, reduceIte] at h) | skip
  refine AWp.exit ?_
  refine AWp.seq ?_
  refine W.kp [1, 2, 6, 17] ?_
  refine AWp.region ?_
  refine L.Y Y.mv ?_
  refine L.Y Y.asg ?_
  refine L.Y Y.asg ?_
  refine AList.nil ?_
  simp only [Option.some.injEq, Prod.mk.injEq] at h
  obtain ⟨rfl, rfl⟩ := h
  refine AWp.ret ?_
  exact ⟨.inr rfl, [(4, _), (5, _)], _, ⟨rfl, rfl⟩, IsPart.at [] [1] base0 (H.c .nil) (E.c (E.c .nil))⟩

end Go.Proofs.Ytboaffpfphkneaa.PFnExactMeetOfBiorders
