-- Written by a program of this session's (wip/myprint2): the functions by the kit's print, the walks by awgen.py. Lean checks it.
import Derived.Test.YtdaneldckdjjoaaDoorPFnExactNearestOfx0
import Derived.Test.YtdaneldckdjjoaaDoorPFnExactNearestOfx1
namespace Go.Proofs.YtdaneldckdjjoaaDoor.PFnExactNearestOf
open Go.RowKit Go.Proofs.YtdaneldckdjjoaaDoorW.PrintWords Go.Proofs.YtdaneldckdjjoaaDoorW.PrintLast Go.Proofs.YtdaneldckdjjoaaDoorW.PrintMore Go.Proofs.YtdaneldckdjjoaaDoorM Go.Proofs.YtdaneldckdjjoaaDoorA Go.Proofs.YtdaneldckdjjoaaDoorT
attribute [local go_sem] max2_int min2_int max_two min_two max_three min_three max_four min_four   -- for this text's walks alone
set_option linter.unusedVariables false
set_option linter.unusedSimpArgs false

/-! ### spec_orBelow: function 61 -/
def spec_orBelow.l0 : Nat → Int → Int → List Int → Int → Int → Option (Int)
 | 0, _, _, _, _, _ => none
 | k + 1, x1, x5, x9, x10, x11 => if x11 < x10 then (if 0 ≤ x11 then (if x11 < (x9.length : Int) then ((spec_orHas.f (rd x9 x11) x1).bind fun t131 => (if t131 = true then (spec_orBelow.l0 k x1 (Go.bits .or .i64 x5 (shl .i64 1 x11)) x9 x10 (wrap64 (x11 + 1))) else (spec_orBelow.l0 k x1 x5 x9 x10 (wrap64 (x11 + 1))))) else (none)) else (none)) else (some x5)
def spec_orBelow.f (k : Nat) (a0_0 : Int) (l0_1 : List Int) (a1 : Int) : Option (Int) := spec_orBelow.l0 k a1 0 l0_1 (l0_1.length : Int) 0
set_option maxRecDepth 100000 in
set_option maxHeartbeats 20000000 in
theorem spec_orBelow.ac (k : Nat) (a0_0 : Int) (l0_1 : List Int) (a1 : Int) (r : Int) (h : spec_orBelow.f k a0_0 l0_1 a1 = some r) :
  ACalls Tryd.prog 61 [.agg [.lit (.int .i64 a0_0), .row 1 l0_1.length false (ints .i64 l0_1)], .lit (.int .i64 a1)] [] (fun v H' => v = .lit (.int .i64 r) ∧ H' = []) := by
 refine ACalls.ofP [4] Tryd.func61 rfl (by exact Nat.le_of_ble_eq_true rfl) rfl (by decide) ?_
 simp only [Tryd.ntmps61, env0, spec_orBelow.f] at h ⊢
 refine AWp.seq ?_
 refine AWp.region ?_
 refine L.M M.bx ?_
 refine L.Y Y.asg ?_
 refine AList.nil ?_
 refine AWp.seq ?_
 refine AWp.region ?_
 refine L.Y Y.asg ?_
 refine AList.nil ?_
 refine AWp.seq ?_
 refine AWp.seq ?_
 refine AWp.region ?_
 refine L.Y (Y.fa (off := 1) Tryd.underlying26 Y22) ?_
 refine L.S (S.ld Tryd.underlying22) ?_
 refine L.Y (Y.ln Tryd.underlying22) ?_
 refine L.Y Y.mv ?_
 refine AList.nil ?_
 refine AWp.block ?_
 refine AWp.loopI (fun kk e H => kk ≤ k ∧ ∃ (x1 : Int) (x5 : Int) (x10 : Int) (x11 : Int) (x130000 : Int), e = [(1, .lit (.int .i64 x1)), (2, .ptr 0 0), (5, .lit (.int .i64 x5)), (9, .row 1 l0_1.length false (ints .i64 l0_1)), (10, .lit (.int .i64 x10)), (11, .lit (.int .i64 x11))] ∧ H = [.bx 26 [.lit (.int .i64 x130000), .row 1 l0_1.length false (ints .i64 l0_1)]] ∧ spec_orBelow.l0 kk x1 x5 l0_1 x10 x11 = some r) (k := k)
  ⟨_, _, ⟨Nat.le_refl _, _, _, _, _, _, rfl, rfl, h⟩, IsPart.at [] [0] base0 (H.c .nil) (E.c (E.c (E.c (E.c (E.c (E.c .nil))))))⟩ ?_
 clear h
 rintro k1 e H ⟨hk2, x1, x5, x10, x11, x130000, rfl, rfl, h⟩
 cases k1 with
 | zero => exact absurd h (by simp [spec_orBelow.l0])
 | succ k1 =>
 simp only [spec_orBelow.l0] at h
 refine AWp.seq ?_
 refine AWp.region ?_
 refine L.Y Y.bin ?_
 refine AList.nil ?_
 refine AWp.seq ?_
 refine W.cond (fun hb => ?_) (fun hb => ?_)
 ·
  have hb3 := hb
  try simp only [hS, hE, ne_eq] at hb
  first | rw [if_pos hb3] at h | rw [if_neg (Bool.eq_false_iff.1 hb3)] at h | rw [if_pos hb] at h | rw [if_neg hb] at h | (simp only [hb, hT, reduceIte] at h) | skip
  repeat (first | (rw [iN] at h; obtain ⟨_, h⟩ := h) | (rw [iP] at h; obtain ⟨_, h⟩ := h) | (simp only [bS] at h))
  refine AWp.skip ?_
  refine AWp.seq ?_
  refine AWp.block ?_
  refine AWp.seq ?_
  refine AWp.region ?_
  refine L.Y Y.mv ?_
  refine L.Y (Y.ixr Tryd.underlying22 Y3) ?_
  refine L.S (S.ld Tryd.underlying3) ?_
  refine L.Y Y.asg ?_
  refine L.Y Y.asg ?_
  refine AList.nil ?_
  refine AWp.seq ?_
  refine AWp.region ?_
  refine L.Y Y.mv ?_
  refine L.Y Y.mv ?_
  replace h := Option.bind_eq_some_iff.1 h
  obtain ⟨t131, hc4, h⟩ := h
  refine L.C (C.callE (l := true) [] Tryd.func29 (spec_orHas.ac _ _ _ hc4) .nil ?_)
  refine AList.nil ?_
  refine W.cond (fun hb => ?_) (fun hb => ?_)
  ·
   have hb5 := hb
   try simp only [hS, hE, ne_eq] at hb
   first | rw [if_pos hb5] at h | rw [if_neg (Bool.eq_false_iff.1 hb5)] at h | rw [if_pos hb] at h | rw [if_neg hb] at h | (simp only [hb, hT, reduceIte] at h) | skip
   refine W.kp [1, 2, 5, 6, 7, 9, 10, 11, 12, 18] ?_
   refine AWp.region ?_
   refine L.Y Y.mv ?_
   refine L.Y Y.mv ?_
   refine L.Y Y.bin ?_
   refine L.Y Y.bin ?_
   refine L.Y Y.asg ?_
   refine AList.nil ?_
   refine W.kp [1, 2, 5, 6, 7, 9, 10, 11, 12, 18] ?_
   refine AWp.region ?_
   refine L.Y Y.bin ?_
   refine L.Y Y.mv ?_
   refine AList.nil ?_
   exact ⟨k1, by omega, _, _, ⟨by omega, _, _, _, _, _, rfl, rfl, h⟩, IsPart.at [] [0] base0 (H.c .nil) (E.c (E.c (E.c (E.c (E.c (E.c .nil))))))⟩
  ·
   have hb5 := hb
   try simp only [hS, hE, ne_eq] at hb
   first | rw [if_pos hb5] at h | rw [if_neg (Bool.eq_false_iff.1 hb5)] at h | rw [if_pos hb] at h | rw [if_neg hb] at h | (simp only [hb, hT, reduceIte] at h) | skip
   refine AWp.skip ?_
   refine W.kp [1, 2, 5, 6, 7, 9, 10, 11, 12, 18] ?_
   refine AWp.region ?_
   refine L.Y Y.bin ?_
   refine L.Y Y.mv ?_
   refine AList.nil ?_
   exact ⟨k1, by omega, _, _, ⟨by omega, _, _, _, _, _, rfl, rfl, h⟩, IsPart.at [] [0] base0 (H.c .nil) (E.c (E.c (E.c (E.c (E.c (E.c .nil))))))⟩
 ·
  have hb3 := hb
  try simp only [hS, hE, ne_eq] at hb
  first | rw [if_pos hb3] at h | rw [if_neg (Bool.eq_false_iff.1 hb3)] at h | rw [if_pos hb] at h | rw [if_neg hb] at h | (simp only [hb, hT, reduceIte] at h) | skip
  refine AWp.exit ?_
  refine AWp.seq ?_
  refine AWp.region ?_
  refine L.Y Y.mv ?_
  refine L.Y Y.asg ?_
  refine AList.nil ?_
  obtain rfl := Option.some.inj h
  refine AWp.ret ?_
  exact ⟨.inr rfl, [(4, _)], _, ⟨rfl, rfl⟩, IsPart.at [] [] base0 .nil (E.c .nil)⟩

/-! ### spec_orFree: function 57 -/
def spec_orFree.f (k : Nat) (a0_0 : Int) (l0_1 : List Int) (a1 : Int) : Option (Int) := if 0 ≤ a0_0 then (if 0 ≤ a1 then (if a1 < (l0_1.length : Int) then ((spec_orBelow.f k a0_0 l0_1 a1).bind fun t134 => (some (Go.bits .andNot .i64 (wrap64 ((shl .i64 1 a0_0) - 1)) (Go.bits .or .i64 (Go.bits .or .i64 (rd l0_1 a1) t134) (shl .i64 1 a1))))) else (none)) else (none)) else (none)
set_option maxRecDepth 100000 in
set_option maxHeartbeats 20000000 in
theorem spec_orFree.ac (k : Nat) (a0_0 : Int) (l0_1 : List Int) (a1 : Int) (r : Int) (h : spec_orFree.f k a0_0 l0_1 a1 = some r) :
  ACalls Tryd.prog 57 [.agg [.lit (.int .i64 a0_0), .row 1 l0_1.length false (ints .i64 l0_1)], .lit (.int .i64 a1)] [] (fun v H' => v = .lit (.int .i64 r) ∧ H' = []) := by
 refine ACalls.ofP [4] Tryd.func57 rfl (by exact Nat.le_of_ble_eq_true rfl) rfl (by decide) ?_
 simp only [Tryd.ntmps57, env0, spec_orFree.f] at h ⊢
 repeat (first | (rw [iN] at h; obtain ⟨_, h⟩ := h) | (rw [iP] at h; obtain ⟨_, h⟩ := h) | (simp only [bS] at h))
 refine AWp.seq ?_
 refine AWp.region ?_
 refine L.M M.bx ?_
 refine L.Y Y.asg ?_
 refine AList.nil ?_
 refine AWp.seq ?_
 refine Dt.reg [] [] (.y 0 (.t 1 (.y 2 (.y 3 (.y 4 (.t 5 (.y 6 (.y 7 (.t 8 (.t 9 (.y 10 (.y 13 (.y 14 (.one 11 (.y 12 (.y 15 (.y 16 (.y 17 .done)))))))))))))))))) HM ?_
 refine Dt.Y rfl wantN (Y.fa (off := 0) Tryd.underlying26 Y3) ?_
 refine Dt.T rfl wantN (D.ld Tryd.underlying3) ?_
 refine Dt.Y rfl wantN Y.bin ?_
 refine Dt.Y rfl wantN Y.bin ?_
 refine Dt.Y rfl wantN (Y.fa (off := 1) Tryd.underlying26 Y22) ?_
 refine Dt.T rfl wantN (D.ld Tryd.underlying22) ?_
 refine Dt.Y rfl wantN Y.mv ?_
 refine Dt.Y rfl wantN (Y.ixr Tryd.underlying22 Y3) ?_
 refine Dt.T rfl wantN (D.ld Tryd.underlying3) ?_
 refine Dt.T rfl wantN (D.ldN Tryd.underlying26 Y26) ?_
 refine Dt.Y rfl wantN Y.mv ?_
 refine Dt.Y rfl wantN Y.mv ?_
 replace h := Option.bind_eq_some_iff.1 h
 obtain ⟨t134, hc1, h⟩ := h
 refine Dt.Y rfl wantN Y.bin ?_
 refine Dt.O (g' := false) rfl wantN ?_
 refine Ox.C true [] Tryd.func61 (spec_orBelow.ac _ _ _ _ _ hc1) .nil ?_
 refine Dt.Y rfl wantN Y.bin ?_
 refine Dt.Y rfl wantN Y.bin ?_
 refine Dt.Y rfl wantN Y.bin ?_
 refine Dt.Y rfl wantN Y.asg ?_
 refine Dt.nil ?_
 obtain rfl := Option.some.inj h
 refine AWp.ret ?_
 exact ⟨.inr rfl, [(4, _)], _, ⟨rfl, rfl⟩, IsPart.at [] [] base0 .nil (E.c .nil)⟩

/-! ### spec_TwoOneOf: function 47 -/
mutual
def spec_TwoOneOf.l0 : Nat → Int → Int → List Int → Option (List Int × Bool)
 | 0, _, _, _ => none
 | k + 1, x4, x136000, x136001 => if x4 < x136000 then (if 0 ≤ x4 then (if x4 < (x136001.length : Int) then ((spec_orList.f k (rd x136001 x4)).bind fun t138 => (spec_TwoOneOf.l1 k x4 t138 (t138.length : Int) 0 x136000 x136001)) else (none)) else (none)) else (some (([] : List Int), false))
def spec_TwoOneOf.l1 : Nat → Int → List Int → Int → Int → Int → List Int → Option (List Int × Bool)
 | 0, _, _, _, _, _, _ => none
 | k + 1, x4, x23, x24, x25, x136000, x136001 => if x25 < x24 then (if 0 ≤ x25 then (if x25 < (x23.length : Int) then ((spec_orFree.f k x136000 x136001 x4).bind fun t142 => ((spec_orFree.f k x136000 x136001 (rd x23 x25)).bind fun t143 => ((spec_orList.f k (Go.bits .and .i64 t142 t143)).bind fun t144 => (spec_TwoOneOf.l2 k x4 (rd x23 x25) x23 x24 x25 t144 (t144.length : Int) 0 x136000 x136001)))) else (none)) else (none)) else (spec_TwoOneOf.l0 k (wrap64 (x4 + 1)) x136000 x136001)
def spec_TwoOneOf.l2 : Nat → Int → Int → List Int → Int → Int → List Int → Int → Int → Int → List Int → Option (List Int × Bool)
 | 0, _, _, _, _, _, _, _, _, _, _ => none
 | k + 1, x4, x6, x23, x24, x25, x36, x37, x38, x136000, x136001 => if x38 < x37 then (if 0 ≤ x38 then (if x38 < (x36.length : Int) then (some ((([x4, x6, rd x36 x38] : List Int)), true)) else (none)) else (none)) else (spec_TwoOneOf.l1 k x4 x23 x24 (wrap64 (x25 + 1)) x136000 x136001)
end
def spec_TwoOneOf.f (k : Nat) (a0_0 : Int) (l0_1 : List Int) : Option (List Int × Bool) := (spec_orGood.f k a0_0 l0_1).bind fun t136 => (if t136 = true then (spec_TwoOneOf.l0 k 0 a0_0 l0_1) else (some (([] : List Int), false)))
set_option maxRecDepth 100000 in
set_option maxHeartbeats 20000000 in
theorem spec_TwoOneOf.ac (k : Nat) (a0_0 : Int) (l0_1 : List Int) (r1 : List Int) (r2 : Bool) (h : spec_TwoOneOf.f k a0_0 l0_1 = some (r1, r2)) :
  ACalls Tryd.prog 47 [.agg [.lit (.int .i64 a0_0), .row 1 l0_1.length false (ints .i64 l0_1)]] [] (fun v H' => v = .tup [.own 0 r1.length, .lit (.bool r2)] ∧ H' = [.sl 3 1 r1.length false (ints .i64 r1)]) := by
 refine ACalls.ofP [2, 3] Tryd.func47 rfl (by exact Nat.le_of_ble_eq_true rfl) rfl (by decide) ?_
 simp only [Tryd.ntmps47, env0, spec_TwoOneOf.f] at h ⊢
 refine AWp.seq ?_
 refine AWp.region ?_
 refine L.M M.bx ?_
 refine L.Y Y.asg ?_
 refine L.Y Y.asg ?_
 refine AList.nil ?_
 refine AWp.seq ?_
 refine AWp.seq ?_
 refine AWp.region ?_
 refine L.S (S.ldN Tryd.underlying26 Y26) ?_
 replace h := Option.bind_eq_some_iff.1 h
 obtain ⟨t136, hc1, h⟩ := h
 refine L.C (C.callE (l := true) [] Tryd.func39 (spec_orGood.ac _ _ _ _ hc1) .nil ?_)
 refine L.Y Y.nt ?_
 refine AList.nil ?_
 refine W.cond (fun hb => ?_) (fun hb => ?_)
 ·
  have hb2 := hb
  try simp only [hS, hE, ne_eq] at hb
  first | rw [if_pos hb2] at h | rw [if_neg (Bool.eq_false_iff.1 hb2)] at h | rw [if_pos hb] at h | rw [if_neg hb] at h | (simp only [hb, hT, reduceIte] at h) | skip
  refine AWp.seq ?_
  refine AWp.region ?_
  refine L.Y Y.asg ?_
  refine L.Y Y.asg ?_
  refine AList.nil ?_
  simp only [Option.some.injEq, Prod.mk.injEq] at h
  obtain ⟨rfl, rfl⟩ := h
  refine AWp.ret ?_
  exact ⟨.inr rfl, [(2, _), (3, _)], _, ⟨rfl, rfl⟩, IsPart.at [(3, 1)] [1] base0 (H.c .nil) (E.c (E.c .nil))⟩
 ·
  have hb2 := hb
  try simp only [hS, hE, ne_eq] at hb
  first | rw [if_pos hb2] at h | rw [if_neg (Bool.eq_false_iff.1 hb2)] at h | rw [if_pos hb] at h | rw [if_neg hb] at h | (simp only [hb, hT, reduceIte] at h) | skip
  refine AWp.skip ?_
  refine AWp.seq ?_
  refine AWp.seq ?_
  refine AWp.region ?_
  refine L.Y Y.asg ?_
  refine AList.nil ?_
  refine AWp.block ?_
  refine AWp.loopI (fun kk e H => kk ≤ k ∧ ∃ (x4 : Int) (x136000 : Int), e = [(1, .ptr 0 0), (4, .lit (.int .i64 x4))] ∧ H = [.bx 26 [.lit (.int .i64 x136000), .row 1 l0_1.length false (ints .i64 l0_1)]] ∧ spec_TwoOneOf.l0 kk x4 x136000 l0_1 = some (r1, r2)) (k := k)
   ⟨_, _, ⟨Nat.le_refl _, _, _, rfl, rfl, h⟩, IsPart.at [] [0] base0 (H.c .nil) (E.c (E.c .nil))⟩ ?_
  clear h
  rintro k3 e H ⟨hk4, x4, x136000, rfl, rfl, h⟩
  cases k3 with
  | zero => exact absurd h (by simp [spec_TwoOneOf.l0])
  | succ k3 =>
  simp only [spec_TwoOneOf.l0] at h
  refine AWp.seq ?_
  refine AWp.seq ?_
  refine AWp.region ?_
  refine L.Y Y.mv ?_
  refine L.Y (Y.fa (off := 0) Tryd.underlying26 Y3) ?_
  refine L.S (S.ld Tryd.underlying3) ?_
  refine L.Y Y.bin ?_
  refine AList.nil ?_
  refine W.cond (fun hb => ?_) (fun hb => ?_)
  ·
   have hb5 := hb
   try simp only [hS, hE, ne_eq] at hb
   first | rw [if_pos hb5] at h | rw [if_neg (Bool.eq_false_iff.1 hb5)] at h | rw [if_pos hb] at h | rw [if_neg hb] at h | (simp only [hb, hT, reduceIte] at h) | skip
   repeat (first | (rw [iN] at h; obtain ⟨_, h⟩ := h) | (rw [iP] at h; obtain ⟨_, h⟩ := h) | (simp only [bS] at h))
   refine AWp.skip ?_
   refine AWp.seq ?_
   refine AWp.block ?_
   refine AWp.seq ?_
   refine AWp.region ?_
   refine L.Y (Y.fa (off := 1) Tryd.underlying26 Y22) ?_
   refine L.S (S.ld Tryd.underlying22) ?_
   refine L.Y Y.mv ?_
   refine L.Y (Y.ixr Tryd.underlying22 Y3) ?_
   refine L.S (S.ld Tryd.underlying3) ?_
   replace h := Option.bind_eq_some_iff.1 h
   obtain ⟨t138, hc6, h⟩ := h
   refine L.C (C.callE (l := true) [] Tryd.func41 (spec_orList.ac _ _ _ hc6) .nil ?_)
   refine L.Y (Y.ln Tryd.underlying22) ?_
   refine L.Y Y.mv ?_
   refine AList.nil ?_
   refine AWp.block ?_
   refine AWp.loopI (fun kk e H => kk ≤ k3 ∧ ∃ (x4 : Int) (x23 : List Int) (x24 : Int) (x25 : Int) (x136000 : Int), e = [(1, .ptr 0 0), (4, .lit (.int .i64 x4)), (23, .own 1 x23.length), (24, .lit (.int .i64 x24)), (25, .lit (.int .i64 x25))] ∧ H = [.bx 26 [.lit (.int .i64 x136000), .row 1 l0_1.length false (ints .i64 l0_1)], .sl 3 1 x23.length false (ints .i64 x23)] ∧ spec_TwoOneOf.l1 kk x4 x23 x24 x25 x136000 l0_1 = some (r1, r2)) (k := k3)
    ⟨_, _, ⟨Nat.le_refl _, _, _, _, _, _, rfl, rfl, h⟩, IsPart.at [] [0, 1] base0 (H.c (H.c .nil)) (E.c (E.c (E.c (E.c (E.c .nil)))))⟩ ?_
   clear h
   rintro k7 e H ⟨hk8, x4, x23, x24, x25, x136000, rfl, rfl, h⟩
   cases k7 with
   | zero => exact absurd h (by simp [spec_TwoOneOf.l1])
   | succ k7 =>
   simp only [spec_TwoOneOf.l1] at h
   refine AWp.seq ?_
   refine AWp.region ?_
   refine L.Y Y.bin ?_
   refine AList.nil ?_
   refine AWp.seq ?_
   refine W.cond (fun hb => ?_) (fun hb => ?_)
   ·
    have hb9 := hb
    try simp only [hS, hE, ne_eq] at hb
    first | rw [if_pos hb9] at h | rw [if_neg (Bool.eq_false_iff.1 hb9)] at h | rw [if_pos hb] at h | rw [if_neg hb] at h | (simp only [hb, hT, reduceIte] at h) | skip
    repeat (first | (rw [iN] at h; obtain ⟨_, h⟩ := h) | (rw [iP] at h; obtain ⟨_, h⟩ := h) | (simp only [bS] at h))
    refine AWp.skip ?_
    refine AWp.seq ?_
    refine AWp.block ?_
    refine AWp.seq ?_
    refine AWp.region ?_
    refine L.Y (Y.ixo Tryd.underlying22 Y3) ?_
    refine L.S (S.ld Tryd.underlying3) ?_
    refine L.Y Y.asg ?_
    refine AList.nil ?_
    refine AWp.seq ?_
    refine Dt.reg [] [] (.t 0 (.y 1 (.t 3 (.y 4 (.y 9 (.one 2 (.one 5 (.y 6 (.one 7 (.y 8 .done)))))))))) HM ?_
    refine Dt.T rfl wantN (D.ldN Tryd.underlying26 Y26) ?_
    refine Dt.Y rfl wantN Y.mv ?_
    refine Dt.T rfl wantN (D.ldN Tryd.underlying26 Y26) ?_
    refine Dt.Y rfl wantN Y.mv ?_
    refine Dt.Y rfl wantN Y.mv ?_
    refine Dt.O (g' := false) rfl wantN ?_
    replace h := Option.bind_eq_some_iff.1 h
    obtain ⟨t142, hc10, h⟩ := h
    refine Ox.C true [] Tryd.func57 (spec_orFree.ac _ _ _ _ _ hc10) .nil ?_
    refine Dt.O (g' := false) rfl wantN ?_
    replace h := Option.bind_eq_some_iff.1 h
    obtain ⟨t143, hc11, h⟩ := h
    refine Ox.C true [] Tryd.func57 (spec_orFree.ac _ _ _ _ _ hc11) .nil ?_
    refine Dt.Y rfl wantN Y.bin ?_
    refine Dt.O (g' := false) rfl wantN ?_
    replace h := Option.bind_eq_some_iff.1 h
    obtain ⟨t144, hc12, h⟩ := h
    refine Ox.C true [] Tryd.func41 (spec_orList.ac _ _ _ hc12) .nil ?_
    refine Dt.Y rfl wantN (Y.ln Tryd.underlying22) ?_
    refine Dt.nil ?_
    refine AWp.block ?_
    refine AWp.loopI (fun kk e H => kk ≤ k7 ∧ ∃ (x4 : Int) (x6 : Int) (x23 : List Int) (x24 : Int) (x25 : Int) (x36 : List Int) (x37 : Int) (x38 : Int) (x136000 : Int), e = [(1, .ptr 0 0), (4, .lit (.int .i64 x4)), (6, .lit (.int .i64 x6)), (23, .own 1 x23.length), (24, .lit (.int .i64 x24)), (25, .lit (.int .i64 x25)), (36, .own 2 x36.length), (37, .lit (.int .i64 x37)), (38, .lit (.int .i64 x38))] ∧ H = [.bx 26 [.lit (.int .i64 x136000), .row 1 l0_1.length false (ints .i64 l0_1)], .sl 3 1 x23.length false (ints .i64 x23), .sl 3 1 x36.length false (ints .i64 x36)] ∧ spec_TwoOneOf.l2 kk x4 x6 x23 x24 x25 x36 x37 x38 x136000 l0_1 = some (r1, r2)) (k := k7)
     ⟨_, _, ⟨Nat.le_refl _, _, _, _, _, _, _, _, _, _, rfl, rfl, h⟩, IsPart.at [] [0, 1, 2] base0 (H.c (H.c (H.c .nil))) (E.c (E.c (E.c (E.c (E.c (E.c (E.c (E.c (E.c .nil)))))))))⟩ ?_
    clear h
    rintro k13 e H ⟨hk14, x4, x6, x23, x24, x25, x36, x37, x38, x136000, rfl, rfl, h⟩
    cases k13 with
    | zero => exact absurd h (by simp [spec_TwoOneOf.l2])
    | succ k13 =>
    simp only [spec_TwoOneOf.l2] at h
    refine AWp.seq ?_
    refine AWp.region ?_
    refine L.Y Y.bin ?_
    refine AList.nil ?_
    refine AWp.seq ?_
    refine W.cond (fun hb => ?_) (fun hb => ?_)
    ·
     have hb15 := hb
     try simp only [hS, hE, ne_eq] at hb
     first | rw [if_pos hb15] at h | rw [if_neg (Bool.eq_false_iff.1 hb15)] at h | rw [if_pos hb] at h | rw [if_neg hb] at h | (simp only [hb, hT, reduceIte] at h) | skip
     repeat (first | (rw [iN] at h; obtain ⟨_, h⟩ := h) | (rw [iP] at h; obtain ⟨_, h⟩ := h) | (simp only [bS] at h))
     refine AWp.skip ?_
     refine AWp.seq ?_
     refine AWp.block ?_
     refine AWp.seq ?_
     refine AWp.region ?_
     refine L.Y (Y.ixo Tryd.underlying22 Y3) ?_
     refine L.S (S.ld Tryd.underlying3) ?_
     refine L.Y Y.asg ?_
     refine AList.nil ?_
     refine AWp.seq ?_
     refine AWp.region ?_
     refine L.Y Y.mv ?_
     refine L.Y Y.mv ?_
     refine L.Y Y.mv ?_
     refine L.M (M.bs Tryd.underlying22 Y3) ?_
     refine L.Y Y.asg ?_
     refine L.Y Y.asg ?_
     refine AList.nil ?_
     simp only [Option.some.injEq, Prod.mk.injEq] at h
     obtain ⟨rfl, rfl⟩ := h
     refine AWp.ret ?_
     exact ⟨.inr rfl, [(2, _), (3, _)], _, ⟨rfl, rfl⟩, IsPart.at [] [3] base0 (H.c .nil) (E.c (E.c .nil))⟩
    ·
     have hb15 := hb
     try simp only [hS, hE, ne_eq] at hb
     first | rw [if_pos hb15] at h | rw [if_neg (Bool.eq_false_iff.1 hb15)] at h | rw [if_pos hb] at h | rw [if_neg hb] at h | (simp only [hb, hT, reduceIte] at h) | skip
     refine AWp.exit ?_
     refine AWp.region ?_
     refine L.Y Y.bin ?_
     refine L.Y Y.mv ?_
     refine AList.nil ?_
     exact ⟨k13, by omega, _, _, ⟨by omega, _, _, _, _, _, rfl, rfl, h⟩, IsPart.at [] [0, 1] base0 (H.c (H.c .nil)) (E.c (E.c (E.c (E.c (E.c .nil)))))⟩
   ·
    have hb9 := hb
    try simp only [hS, hE, ne_eq] at hb
    first | rw [if_pos hb9] at h | rw [if_neg (Bool.eq_false_iff.1 hb9)] at h | rw [if_pos hb] at h | rw [if_neg hb] at h | (simp only [hb, hT, reduceIte] at h) | skip
    refine AWp.exit ?_
    refine AWp.region ?_
    refine L.Y Y.mv ?_
    refine L.Y Y.bin ?_
    refine L.Y Y.asg ?_
    refine AList.nil ?_
    exact ⟨k7, by omega, _, _, ⟨by omega, _, _, rfl, rfl, h⟩, IsPart.at [] [0] base0 (H.c .nil) (E.c (E.c .nil))⟩
  ·
   have hb5 := hb
   try simp only [hS, hE, ne_eq] at hb
   first | rw [if_pos hb5] at h | rw [if_neg (Bool.eq_false_iff.1 hb5)] at h | rw [if_pos hb] at h | rw [if_neg hb] at h | (simp only [hb, hT, reduceIte] at h) | skip
   refine AWp.exit ?_
   refine AWp.seq ?_
   refine AWp.region ?_
   refine L.Y Y.asg ?_
   refine L.Y Y.asg ?_
   refine AList.nil ?_
   simp only [Option.some.injEq, Prod.mk.injEq] at h
   obtain ⟨rfl, rfl⟩ := h
   refine AWp.ret ?_
   exact ⟨.inr rfl, [(2, _), (3, _)], _, ⟨rfl, rfl⟩, IsPart.at [(3, 1)] [1] base0 (H.c .nil) (E.c (E.c .nil))⟩

/-! ### spec_weGood: function 37 -/
def spec_weGood.f (k : Nat) (a0_0 : Int) (l0_1 : List Int) : Option (Bool) := (spec_TwoOneOf.f k a0_0 l0_1).bind fun bt152 => ((spec_orGood.f k a0_0 l0_1).bind fun t156 => (if t156 = true then (some (!bt152.2)) else (some false)))
set_option maxRecDepth 100000 in
set_option maxHeartbeats 20000000 in
theorem spec_weGood.ac (k : Nat) (a0_0 : Int) (l0_1 : List Int) (r : Bool) (h : spec_weGood.f k a0_0 l0_1 = some r) :
  ACalls Tryd.prog 37 [.agg [.lit (.int .i64 a0_0), .row 1 l0_1.length false (ints .i64 l0_1)]] [] (fun v H' => v = .lit (.bool r) ∧ H' = []) := by
 refine ACalls.ofP [2] Tryd.func37 rfl (by exact Nat.le_of_ble_eq_true rfl) rfl (by decide) ?_
 simp only [Tryd.ntmps37, env0, spec_weGood.f] at h ⊢
 refine AWp.seq ?_
 refine AWp.region ?_
 refine L.M M.bx ?_
 refine L.Y Y.asg ?_
 refine AList.nil ?_
 refine AWp.seq ?_
 refine AWp.region ?_
 refine L.S (S.ldN Tryd.underlying26 Y26) ?_
 replace h := Option.bind_eq_some_iff.1 h
 obtain ⟨⟨t152, t155⟩, hc1, h⟩ := h
 dsimp only at h
 refine L.C (C.callE (l := true) [] Tryd.func47 (spec_TwoOneOf.ac _ _ _ _ _ hc1) .nil ?_)
 refine L.Y Y.mv ?_
 refine L.Y Y.ex ?_
 refine L.Y Y.ex ?_
 refine L.Y Y.asg ?_
 refine L.Y Y.asg ?_
 refine AList.nil ?_
 refine AWp.seq ?_
 refine W.kp [0, 1, 2, 4] ?_
 refine AWp.region ?_
 refine L.S (S.ldN Tryd.underlying26 Y26) ?_
 replace h := Option.bind_eq_some_iff.1 h
 obtain ⟨t156, hc2, h⟩ := h
 refine L.C (C.callE (l := true) [] Tryd.func39 (spec_orGood.ac _ _ _ _ hc2) .nil ?_)
 refine L.Y Y.mv ?_
 refine L.Gc (fun hb => ?_) (fun hb => ?_)
 ·
  have hb3 := hb
  try simp only [hS, hE, ne_eq] at hb
  first | rw [if_pos hb3] at h | rw [if_neg (Bool.eq_false_iff.1 hb3)] at h | rw [if_pos hb] at h | rw [if_neg hb] at h | (simp only [hb, hT, reduceIte] at h) | skip
  refine L.Gy hb3 Y.mv ?_
  refine L.Gy hb3 Y.nt ?_
  refine L.Y (Y.pk (c := true) hb3) ?_
  refine L.Y Y.asg ?_
  refine AList.nil ?_
  obtain rfl := Option.some.inj h
  refine AWp.ret ?_
  exact ⟨.inr rfl, [(2, _)], _, ⟨rfl, rfl⟩, IsPart.at [] [] base0 .nil (E.c .nil)⟩
 ·
  have hb3 := hb
  try simp only [hS, hE, ne_eq] at hb
  first | rw [if_pos hb3] at h | rw [if_neg (Bool.eq_false_iff.1 hb3)] at h | rw [if_pos hb] at h | rw [if_neg hb] at h | (simp only [hb, hT, reduceIte] at h) | skip
  refine L.Gn hb3 ?_
  refine L.Gn hb3 ?_
  refine L.Y (Y.pk (c := false) hb3) ?_
  refine L.Y Y.asg ?_
  refine AList.nil ?_
  obtain rfl := Option.some.inj h
  refine AWp.ret ?_
  exact ⟨.inr rfl, [(2, _)], _, ⟨rfl, rfl⟩, IsPart.at [] [] base0 .nil (E.c .nil)⟩

/-! ### spec_seIndifferent: function 49 -/
def spec_seIndifferent.f (k : Nat) (a0_0 : Int) (l0_1 : List Int) (a1 : Int) (a2 : Int) : Option (Bool) := (spec_orFree.f k a0_0 l0_1 a1).bind fun t158 => ((spec_orHas.f t158 a2).bind fun t159 => (some t159))
set_option maxRecDepth 100000 in
set_option maxHeartbeats 20000000 in
theorem spec_seIndifferent.ac (k : Nat) (a0_0 : Int) (l0_1 : List Int) (a1 : Int) (a2 : Int) (r : Bool) (h : spec_seIndifferent.f k a0_0 l0_1 a1 a2 = some r) :
  ACalls Tryd.prog 49 [.agg [.lit (.int .i64 a0_0), .row 1 l0_1.length false (ints .i64 l0_1)], .lit (.int .i64 a1), .lit (.int .i64 a2)] [] (fun v H' => v = .lit (.bool r) ∧ H' = []) := by
 refine ACalls.ofP [6] Tryd.func49 rfl (by exact Nat.le_of_ble_eq_true rfl) rfl (by decide) ?_
 simp only [Tryd.ntmps49, env0, spec_seIndifferent.f] at h ⊢
 refine AWp.seq ?_
 refine AWp.region ?_
 refine L.M M.bx ?_
 refine L.Y Y.asg ?_
 refine AList.nil ?_
 refine AWp.seq ?_
 refine AWp.region ?_
 refine L.S (S.ldN Tryd.underlying26 Y26) ?_
 refine L.Y Y.mv ?_
 replace h := Option.bind_eq_some_iff.1 h
 obtain ⟨t158, hc1, h⟩ := h
 refine L.C (C.callE (l := true) [] Tryd.func57 (spec_orFree.ac _ _ _ _ _ hc1) .nil ?_)
 refine L.Y Y.mv ?_
 replace h := Option.bind_eq_some_iff.1 h
 obtain ⟨t159, hc2, h⟩ := h
 refine L.C (C.callE (l := true) [] Tryd.func29 (spec_orHas.ac _ _ _ hc2) .nil ?_)
 refine L.Y Y.asg ?_
 refine AList.nil ?_
 obtain rfl := Option.some.inj h
 refine AWp.ret ?_
 exact ⟨.inr rfl, [(6, _)], _, ⟨rfl, rfl⟩, IsPart.at [] [] base0 .nil (E.c .nil)⟩

end Go.Proofs.YtdaneldckdjjoaaDoor.PFnExactNearestOf
