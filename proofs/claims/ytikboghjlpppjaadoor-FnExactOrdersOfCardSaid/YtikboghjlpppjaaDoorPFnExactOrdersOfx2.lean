-- Written by a program of this session's (wip/myprint2): the functions by the kit's print, the walks by awgen.py. Lean checks it.
import Derived.Test.YtikboghjlpppjaaDoorPFnExactOrdersOfx0
import Derived.Test.YtikboghjlpppjaaDoorPFnExactOrdersOfx1
namespace Go.Proofs.YtikboghjlpppjaaDoor.PFnExactOrdersOf
open Go.RowKit Go.Proofs.YtikboghjlpppjaaDoorW.PrintWords Go.Proofs.YtikboghjlpppjaaDoorW.PrintLast Go.Proofs.YtikboghjlpppjaaDoorW.PrintMore Go.Proofs.YtikboghjlpppjaaDoorM Go.Proofs.YtikboghjlpppjaaDoorA Go.Proofs.YtikboghjlpppjaaDoorT
attribute [local go_sem] max2_int min2_int max_two min_two max_three min_three max_four min_four   -- for this text's walks alone
set_option linter.unusedVariables false
set_option linter.unusedSimpArgs false

/-! ### spec_orFree: function 45 -/
def spec_orFree.f (k : Nat) (a0_0 : Int) (l0_1 : List Int) (a1 : Int) : Option (Int) := if 0 ≤ a0_0 then (if 0 ≤ a1 then (if a1 < (l0_1.length : Int) then ((spec_orBelow.f k a0_0 l0_1 a1).bind fun t132 => (some (Go.bits .andNot .i64 (wrap64 ((shl .i64 1 a0_0) - 1)) (Go.bits .or .i64 (Go.bits .or .i64 (rd l0_1 a1) t132) (shl .i64 1 a1))))) else (none)) else (none)) else (none)
set_option maxRecDepth 100000 in
set_option maxHeartbeats 20000000 in
theorem spec_orFree.ac (k : Nat) (a0_0 : Int) (l0_1 : List Int) (a1 : Int) (r : Int) (h : spec_orFree.f k a0_0 l0_1 a1 = some r) :
  ACalls Tryd.prog 45 [.agg [.lit (.int .i64 a0_0), .row 1 l0_1.length false (ints .i64 l0_1)], .lit (.int .i64 a1)] [] (fun v H' => v = .lit (.int .i64 r) ∧ H' = []) := by
 refine ACalls.ofP [4] Tryd.func45 rfl (by exact Nat.le_of_ble_eq_true rfl) rfl (by decide) ?_
 simp only [Tryd.ntmps45, env0, spec_orFree.f] at h ⊢
 repeat (first | (rw [iN] at h; obtain ⟨_, h⟩ := h) | (rw [iP] at h; obtain ⟨_, h⟩ := h) | (simp only [bS] at h))
 refine AWp.seq ?_
 refine AWp.region ?_
 refine L.M M.bx ?_
 refine L.Y Y.asg ?_
 refine AList.nil ?_
 refine AWp.seq ?_
 refine Dt.reg [] [] (.y 0 (.t 1 (.y 2 (.y 3 (.y 4 (.t 5 (.y 6 (.y 7 (.t 8 (.t 9 (.y 10 (.y 13 (.y 14 (.one 11 (.y 12 (.y 15 (.y 16 (.y 17 .done)))))))))))))))))) HM ?_
 refine Dt.Y rfl wantN (Y.fa (off := 0) Tryd.underlying34 Y3) ?_
 refine Dt.T rfl wantN (D.ld Tryd.underlying3) ?_
 refine Dt.Y rfl wantN Y.bin ?_
 refine Dt.Y rfl wantN Y.bin ?_
 refine Dt.Y rfl wantN (Y.fa (off := 1) Tryd.underlying34 Y32) ?_
 refine Dt.T rfl wantN (D.ld Tryd.underlying32) ?_
 refine Dt.Y rfl wantN Y.mv ?_
 refine Dt.Y rfl wantN (Y.ixr Tryd.underlying32 Y3) ?_
 refine Dt.T rfl wantN (D.ld Tryd.underlying3) ?_
 refine Dt.T rfl wantN (D.ldN Tryd.underlying34 Y34) ?_
 refine Dt.Y rfl wantN Y.mv ?_
 refine Dt.Y rfl wantN Y.mv ?_
 replace h := Option.bind_eq_some_iff.1 h
 obtain ⟨t132, hc1, h⟩ := h
 refine Dt.Y rfl wantN Y.bin ?_
 refine Dt.O (g' := false) rfl wantN ?_
 refine Ox.C true [] Tryd.func51 (spec_orBelow.ac _ _ _ _ _ hc1) .nil ?_
 refine Dt.Y rfl wantN Y.bin ?_
 refine Dt.Y rfl wantN Y.bin ?_
 refine Dt.Y rfl wantN Y.bin ?_
 refine Dt.Y rfl wantN Y.asg ?_
 refine Dt.nil ?_
 obtain rfl := Option.some.inj h
 refine AWp.ret ?_
 exact ⟨.inr rfl, [(4, _)], _, ⟨rfl, rfl⟩, IsPart.at [] [] base0 .nil (E.c .nil)⟩

/-! ### spec_TwoOneOf: function 34 -/
mutual
def spec_TwoOneOf.l0 : Nat → Int → Int → List Int → Option (List Int × Bool)
 | 0, _, _, _ => none
 | k + 1, x4, x134000, x134001 => if x4 < x134000 then (if 0 ≤ x4 then (if x4 < (x134001.length : Int) then ((spec_orList.f k (rd x134001 x4)).bind fun t136 => (spec_TwoOneOf.l1 k x4 t136 (t136.length : Int) 0 x134000 x134001)) else (none)) else (none)) else (some (([] : List Int), false))
def spec_TwoOneOf.l1 : Nat → Int → List Int → Int → Int → Int → List Int → Option (List Int × Bool)
 | 0, _, _, _, _, _, _ => none
 | k + 1, x4, x23, x24, x25, x134000, x134001 => if x25 < x24 then (if 0 ≤ x25 then (if x25 < (x23.length : Int) then ((spec_orFree.f k x134000 x134001 x4).bind fun t140 => ((spec_orFree.f k x134000 x134001 (rd x23 x25)).bind fun t141 => ((spec_orList.f k (Go.bits .and .i64 t140 t141)).bind fun t142 => (spec_TwoOneOf.l2 k x4 (rd x23 x25) x23 x24 x25 t142 (t142.length : Int) 0 x134000 x134001)))) else (none)) else (none)) else (spec_TwoOneOf.l0 k (wrap64 (x4 + 1)) x134000 x134001)
def spec_TwoOneOf.l2 : Nat → Int → Int → List Int → Int → Int → List Int → Int → Int → Int → List Int → Option (List Int × Bool)
 | 0, _, _, _, _, _, _, _, _, _, _ => none
 | k + 1, x4, x6, x23, x24, x25, x36, x37, x38, x134000, x134001 => if x38 < x37 then (if 0 ≤ x38 then (if x38 < (x36.length : Int) then (some ((([x4, x6, rd x36 x38] : List Int)), true)) else (none)) else (none)) else (spec_TwoOneOf.l1 k x4 x23 x24 (wrap64 (x25 + 1)) x134000 x134001)
end
def spec_TwoOneOf.f (k : Nat) (a0_0 : Int) (l0_1 : List Int) : Option (List Int × Bool) := (spec_orGood.f k a0_0 l0_1).bind fun t134 => (if t134 = true then (spec_TwoOneOf.l0 k 0 a0_0 l0_1) else (some (([] : List Int), false)))
set_option maxRecDepth 100000 in
set_option maxHeartbeats 20000000 in
theorem spec_TwoOneOf.ac (k : Nat) (a0_0 : Int) (l0_1 : List Int) (r1 : List Int) (r2 : Bool) (h : spec_TwoOneOf.f k a0_0 l0_1 = some (r1, r2)) :
  ACalls Tryd.prog 34 [.agg [.lit (.int .i64 a0_0), .row 1 l0_1.length false (ints .i64 l0_1)]] [] (fun v H' => v = .tup [.own 0 r1.length, .lit (.bool r2)] ∧ H' = [.sl 3 1 r1.length false (ints .i64 r1)]) := by
 refine ACalls.ofP [2, 3] Tryd.func34 rfl (by exact Nat.le_of_ble_eq_true rfl) rfl (by decide) ?_
 simp only [Tryd.ntmps34, env0, spec_TwoOneOf.f] at h ⊢
 refine AWp.seq ?_
 refine AWp.region ?_
 refine L.M M.bx ?_
 refine L.Y Y.asg ?_
 refine L.Y Y.asg ?_
 refine AList.nil ?_
 refine AWp.seq ?_
 refine AWp.seq ?_
 refine AWp.region ?_
 refine L.S (S.ldN Tryd.underlying34 Y34) ?_
 replace h := Option.bind_eq_some_iff.1 h
 obtain ⟨t134, hc1, h⟩ := h
 refine L.C (C.callE (l := true) [] Tryd.func28 (spec_orGood.ac _ _ _ _ hc1) .nil ?_)
 refine L.Y Y.nt ?_
 refine AList.nil ?_
 refine W.cond (fun hb => ?_) (fun hb => ?_)
 ·
  have hb2 := hb
  try simp only [hS, hE, ne_eq] at hb
  first | rw [if_pos hb2] at h | rw [if_neg (Bool.eq_false_iff.1 hb2)] at h | rw [if_pos hb] at h | rw [if_neg hb] at h | (simp only [hb, hT, reduceIte] at h) | skip
  refine AWp.seq ?_
  refine AWp.region ?_
  refine L.Y Y.asg ?_
  refine L.Y Y.asg ?_
  refine AList.nil ?_
  simp only [Option.some.injEq, Prod.mk.injEq] at h
  obtain ⟨rfl, rfl⟩ := h
  refine AWp.ret ?_
  exact ⟨.inr rfl, [(2, _), (3, _)], _, ⟨rfl, rfl⟩, IsPart.at [(3, 1)] [1] base0 (H.c .nil) (E.c (E.c .nil))⟩
 ·
  have hb2 := hb
  try simp only [hS, hE, ne_eq] at hb
  first | rw [if_pos hb2] at h | rw [if_neg (Bool.eq_false_iff.1 hb2)] at h | rw [if_pos hb] at h | rw [if_neg hb] at h | (simp only [hb, hT, reduceIte] at h) | skip
  refine AWp.skip ?_
  refine AWp.seq ?_
  refine AWp.seq ?_
  refine AWp.region ?_
  refine L.Y Y.asg ?_
  refine AList.nil ?_
  refine AWp.block ?_
  refine AWp.loopI (fun kk e H => kk ≤ k ∧ ∃ (x4 : Int) (x134000 : Int), e = [(1, .ptr 0 0), (4, .lit (.int .i64 x4))] ∧ H = [.bx 34 [.lit (.int .i64 x134000), .row 1 l0_1.length false (ints .i64 l0_1)]] ∧ spec_TwoOneOf.l0 kk x4 x134000 l0_1 = some (r1, r2)) (k := k)
   ⟨_, _, ⟨Nat.le_refl _, _, _, rfl, rfl, h⟩, IsPart.at [] [0] base0 (H.c .nil) (E.c (E.c .nil))⟩ ?_
  clear h
  rintro k3 e H ⟨hk4, x4, x134000, rfl, rfl, h⟩
  cases k3 with
  | zero => exact absurd h (by simp [spec_TwoOneOf.l0])
  | succ k3 =>
  simp only [spec_TwoOneOf.l0] at h
  refine AWp.seq ?_
  refine AWp.seq ?_
  refine AWp.region ?_
  refine L.Y Y.mv ?_
  refine L.Y (Y.fa (off := 0) Tryd.underlying34 Y3) ?_
  refine L.S (S.ld Tryd.underlying3) ?_
  refine L.Y Y.bin ?_
  refine AList.nil ?_
  refine W.cond (fun hb => ?_) (fun hb => ?_)
  ·
   have hb5 := hb
   try simp only [hS, hE, ne_eq] at hb
   first | rw [if_pos hb5] at h | rw [if_neg (Bool.eq_false_iff.1 hb5)] at h | rw [if_pos hb] at h | rw [if_neg hb] at h | (simp only [hb, hT, reduceIte] at h) | skip
   repeat (first | (rw [iN] at h; obtain ⟨_, h⟩ := h) | (rw [iP] at h; obtain ⟨_, h⟩ := h) | (simp only [bS] at h))
   refine AWp.skip ?_
   refine AWp.seq ?_
   refine AWp.block ?_
   refine AWp.seq ?_
   refine AWp.region ?_
   refine L.Y (Y.fa (off := 1) Tryd.underlying34 Y32) ?_
   refine L.S (S.ld Tryd.underlying32) ?_
   refine L.Y Y.mv ?_
   refine L.Y (Y.ixr Tryd.underlying32 Y3) ?_
   refine L.S (S.ld Tryd.underlying3) ?_
   replace h := Option.bind_eq_some_iff.1 h
   obtain ⟨t136, hc6, h⟩ := h
   refine L.C (C.callE (l := true) [] Tryd.func37 (spec_orList.ac _ _ _ hc6) .nil ?_)
   refine L.Y (Y.ln Tryd.underlying32) ?_
   refine L.Y Y.mv ?_
   refine AList.nil ?_
   refine AWp.block ?_
   refine AWp.loopI (fun kk e H => kk ≤ k3 ∧ ∃ (x4 : Int) (x23 : List Int) (x24 : Int) (x25 : Int) (x134000 : Int), e = [(1, .ptr 0 0), (4, .lit (.int .i64 x4)), (23, .own 1 x23.length), (24, .lit (.int .i64 x24)), (25, .lit (.int .i64 x25))] ∧ H = [.bx 34 [.lit (.int .i64 x134000), .row 1 l0_1.length false (ints .i64 l0_1)], .sl 3 1 x23.length false (ints .i64 x23)] ∧ spec_TwoOneOf.l1 kk x4 x23 x24 x25 x134000 l0_1 = some (r1, r2)) (k := k3)
    ⟨_, _, ⟨Nat.le_refl _, _, _, _, _, _, rfl, rfl, h⟩, IsPart.at [] [0, 1] base0 (H.c (H.c .nil)) (E.c (E.c (E.c (E.c (E.c .nil)))))⟩ ?_
   clear h
   rintro k7 e H ⟨hk8, x4, x23, x24, x25, x134000, rfl, rfl, h⟩
   cases k7 with
   | zero => exact absurd h (by simp [spec_TwoOneOf.l1])
   | succ k7 =>
   simp only [spec_TwoOneOf.l1] at h
   refine AWp.seq ?_
   refine AWp.region ?_
   refine L.Y Y.bin ?_
   refine AList.nil ?_
   refine AWp.seq ?_
   refine W.cond (fun hb => ?_) (fun hb => ?_)
   ·
    have hb9 := hb
    try simp only [hS, hE, ne_eq] at hb
    first | rw [if_pos hb9] at h | rw [if_neg (Bool.eq_false_iff.1 hb9)] at h | rw [if_pos hb] at h | rw [if_neg hb] at h | (simp only [hb, hT, reduceIte] at h) | skip
    repeat (first | (rw [iN] at h; obtain ⟨_, h⟩ := h) | (rw [iP] at h; obtain ⟨_, h⟩ := h) | (simp only [bS] at h))
    refine AWp.skip ?_
    refine AWp.seq ?_
    refine AWp.block ?_
    refine AWp.seq ?_
    refine AWp.region ?_
    refine L.Y (Y.ixo Tryd.underlying32 Y3) ?_
    refine L.S (S.ld Tryd.underlying3) ?_
    refine L.Y Y.asg ?_
    refine AList.nil ?_
    refine AWp.seq ?_
    refine Dt.reg [] [] (.t 0 (.y 1 (.t 3 (.y 4 (.y 9 (.one 2 (.one 5 (.y 6 (.one 7 (.y 8 .done)))))))))) HM ?_
    refine Dt.T rfl wantN (D.ldN Tryd.underlying34 Y34) ?_
    refine Dt.Y rfl wantN Y.mv ?_
    refine Dt.T rfl wantN (D.ldN Tryd.underlying34 Y34) ?_
    refine Dt.Y rfl wantN Y.mv ?_
    refine Dt.Y rfl wantN Y.mv ?_
    refine Dt.O (g' := false) rfl wantN ?_
    replace h := Option.bind_eq_some_iff.1 h
    obtain ⟨t140, hc10, h⟩ := h
    refine Ox.C true [] Tryd.func45 (spec_orFree.ac _ _ _ _ _ hc10) .nil ?_
    refine Dt.O (g' := false) rfl wantN ?_
    replace h := Option.bind_eq_some_iff.1 h
    obtain ⟨t141, hc11, h⟩ := h
    refine Ox.C true [] Tryd.func45 (spec_orFree.ac _ _ _ _ _ hc11) .nil ?_
    refine Dt.Y rfl wantN Y.bin ?_
    refine Dt.O (g' := false) rfl wantN ?_
    replace h := Option.bind_eq_some_iff.1 h
    obtain ⟨t142, hc12, h⟩ := h
    refine Ox.C true [] Tryd.func37 (spec_orList.ac _ _ _ hc12) .nil ?_
    refine Dt.Y rfl wantN (Y.ln Tryd.underlying32) ?_
    refine Dt.nil ?_
    refine AWp.block ?_
    refine AWp.loopI (fun kk e H => kk ≤ k7 ∧ ∃ (x4 : Int) (x6 : Int) (x23 : List Int) (x24 : Int) (x25 : Int) (x36 : List Int) (x37 : Int) (x38 : Int) (x134000 : Int), e = [(1, .ptr 0 0), (4, .lit (.int .i64 x4)), (6, .lit (.int .i64 x6)), (23, .own 1 x23.length), (24, .lit (.int .i64 x24)), (25, .lit (.int .i64 x25)), (36, .own 2 x36.length), (37, .lit (.int .i64 x37)), (38, .lit (.int .i64 x38))] ∧ H = [.bx 34 [.lit (.int .i64 x134000), .row 1 l0_1.length false (ints .i64 l0_1)], .sl 3 1 x23.length false (ints .i64 x23), .sl 3 1 x36.length false (ints .i64 x36)] ∧ spec_TwoOneOf.l2 kk x4 x6 x23 x24 x25 x36 x37 x38 x134000 l0_1 = some (r1, r2)) (k := k7)
     ⟨_, _, ⟨Nat.le_refl _, _, _, _, _, _, _, _, _, _, rfl, rfl, h⟩, IsPart.at [] [0, 1, 2] base0 (H.c (H.c (H.c .nil))) (E.c (E.c (E.c (E.c (E.c (E.c (E.c (E.c (E.c .nil)))))))))⟩ ?_
    clear h
    rintro k13 e H ⟨hk14, x4, x6, x23, x24, x25, x36, x37, x38, x134000, rfl, rfl, h⟩
    cases k13 with
    | zero => exact absurd h (by simp [spec_TwoOneOf.l2])
    | succ k13 =>
    simp only [spec_TwoOneOf.l2] at h
    refine AWp.seq ?_
    refine AWp.region ?_
    refine L.Y Y.bin ?_
    refine AList.nil ?_
    refine AWp.seq ?_
    refine W.cond (fun hb => ?_) (fun hb => ?_)
    ·
     have hb15 := hb
     try simp only [hS, hE, ne_eq] at hb
     first | rw [if_pos hb15] at h | rw [if_neg (Bool.eq_false_iff.1 hb15)] at h | rw [if_pos hb] at h | rw [if_neg hb] at h | (simp only [hb, hT, reduceIte] at h) | skip
     repeat (first | (rw [iN] at h; obtain ⟨_, h⟩ := h) | (rw [iP] at h; obtain ⟨_, h⟩ := h) | (simp only [bS] at h))
     refine AWp.skip ?_
     refine AWp.seq ?_
     refine AWp.block ?_
     refine AWp.seq ?_
     refine AWp.region ?_
     refine L.Y (Y.ixo Tryd.underlying32 Y3) ?_
     refine L.S (S.ld Tryd.underlying3) ?_
     refine L.Y Y.asg ?_
     refine AList.nil ?_
     refine AWp.seq ?_
     refine AWp.region ?_
     refine L.Y Y.mv ?_
     refine L.Y Y.mv ?_
     refine L.Y Y.mv ?_
     refine L.M (M.bs Tryd.underlying32 Y3) ?_
     refine L.Y Y.asg ?_
     refine L.Y Y.asg ?_
     refine AList.nil ?_
     simp only [Option.some.injEq, Prod.mk.injEq] at h
     obtain ⟨rfl, rfl⟩ := h
     refine AWp.ret ?_
     exact ⟨.inr rfl, [(2, _), (3, _)], _, ⟨rfl, rfl⟩, IsPart.at [] [3] base0 (H.c .nil) (E.c (E.c .nil))⟩
    ·
     have hb15 := hb
     try simp only [hS, hE, ne_eq] at hb
     first | rw [if_pos hb15] at h | rw [if_neg (Bool.eq_false_iff.1 hb15)] at h | rw [if_pos hb] at h | rw [if_neg hb] at h | (simp only [hb, hT, reduceIte] at h) | skip
     refine AWp.exit ?_
     refine AWp.region ?_
     refine L.Y Y.bin ?_
     refine L.Y Y.mv ?_
     refine AList.nil ?_
     exact ⟨k13, by omega, _, _, ⟨by omega, _, _, _, _, _, rfl, rfl, h⟩, IsPart.at [] [0, 1] base0 (H.c (H.c .nil)) (E.c (E.c (E.c (E.c (E.c .nil)))))⟩
   ·
    have hb9 := hb
    try simp only [hS, hE, ne_eq] at hb
    first | rw [if_pos hb9] at h | rw [if_neg (Bool.eq_false_iff.1 hb9)] at h | rw [if_pos hb] at h | rw [if_neg hb] at h | (simp only [hb, hT, reduceIte] at h) | skip
    refine AWp.exit ?_
    refine AWp.region ?_
    refine L.Y Y.mv ?_
    refine L.Y Y.bin ?_
    refine L.Y Y.asg ?_
    refine AList.nil ?_
    exact ⟨k7, by omega, _, _, ⟨by omega, _, _, rfl, rfl, h⟩, IsPart.at [] [0] base0 (H.c .nil) (E.c (E.c .nil))⟩
  ·
   have hb5 := hb
   try simp only [hS, hE, ne_eq] at hb
   first | rw [if_pos hb5] at h | rw [if_neg (Bool.eq_false_iff.1 hb5)] at h | rw [if_pos hb] at h | rw [if_neg hb] at h | (simp only [hb, hT, reduceIte] at h) | skip
   refine AWp.exit ?_
   refine AWp.seq ?_
   refine AWp.region ?_
   refine L.Y Y.asg ?_
   refine L.Y Y.asg ?_
   refine AList.nil ?_
   simp only [Option.some.injEq, Prod.mk.injEq] at h
   obtain ⟨rfl, rfl⟩ := h
   refine AWp.ret ?_
   exact ⟨.inr rfl, [(2, _), (3, _)], _, ⟨rfl, rfl⟩, IsPart.at [(3, 1)] [1] base0 (H.c .nil) (E.c (E.c .nil))⟩

/-! ### spec_weGood: function 26 -/
def spec_weGood.f (k : Nat) (a0_0 : Int) (l0_1 : List Int) : Option (Bool) := (spec_TwoOneOf.f k a0_0 l0_1).bind fun bt150 => ((spec_orGood.f k a0_0 l0_1).bind fun t154 => (if t154 = true then (some (!bt150.2)) else (some false)))
set_option maxRecDepth 100000 in
set_option maxHeartbeats 20000000 in
theorem spec_weGood.ac (k : Nat) (a0_0 : Int) (l0_1 : List Int) (r : Bool) (h : spec_weGood.f k a0_0 l0_1 = some r) :
  ACalls Tryd.prog 26 [.agg [.lit (.int .i64 a0_0), .row 1 l0_1.length false (ints .i64 l0_1)]] [] (fun v H' => v = .lit (.bool r) ∧ H' = []) := by
 refine ACalls.ofP [2] Tryd.func26 rfl (by exact Nat.le_of_ble_eq_true rfl) rfl (by decide) ?_
 simp only [Tryd.ntmps26, env0, spec_weGood.f] at h ⊢
 refine AWp.seq ?_
 refine AWp.region ?_
 refine L.M M.bx ?_
 refine L.Y Y.asg ?_
 refine AList.nil ?_
 refine AWp.seq ?_
 refine AWp.region ?_
 refine L.S (S.ldN Tryd.underlying34 Y34) ?_
 replace h := Option.bind_eq_some_iff.1 h
 obtain ⟨⟨t150, t153⟩, hc1, h⟩ := h
 dsimp only at h
 refine L.C (C.callE (l := true) [] Tryd.func34 (spec_TwoOneOf.ac _ _ _ _ _ hc1) .nil ?_)
 refine L.Y Y.mv ?_
 refine L.Y Y.ex ?_
 refine L.Y Y.ex ?_
 refine L.Y Y.asg ?_
 refine L.Y Y.asg ?_
 refine AList.nil ?_
 refine AWp.seq ?_
 refine W.kp [0, 1, 2, 4] ?_
 refine AWp.region ?_
 refine L.S (S.ldN Tryd.underlying34 Y34) ?_
 replace h := Option.bind_eq_some_iff.1 h
 obtain ⟨t154, hc2, h⟩ := h
 refine L.C (C.callE (l := true) [] Tryd.func28 (spec_orGood.ac _ _ _ _ hc2) .nil ?_)
 refine L.Y Y.mv ?_
 refine L.Gc (fun hb => ?_) (fun hb => ?_)
 ·
  have hb3 := hb
  try simp only [hS, hE, ne_eq] at hb
  first | rw [if_pos hb3] at h | rw [if_neg (Bool.eq_false_iff.1 hb3)] at h | rw [if_pos hb] at h | rw [if_neg hb] at h | (simp only [hb, hT, reduceIte] at h) | skip
  refine L.Gy hb3 Y.mv ?_
  refine L.Gy hb3 Y.nt ?_
  refine L.Y (Y.pk (c := true) hb3) ?_
  refine L.Y Y.asg ?_
  refine AList.nil ?_
  obtain rfl := Option.some.inj h
  refine AWp.ret ?_
  exact ⟨.inr rfl, [(2, _)], _, ⟨rfl, rfl⟩, IsPart.at [] [] base0 .nil (E.c .nil)⟩
 ·
  have hb3 := hb
  try simp only [hS, hE, ne_eq] at hb
  first | rw [if_pos hb3] at h | rw [if_neg (Bool.eq_false_iff.1 hb3)] at h | rw [if_pos hb] at h | rw [if_neg hb] at h | (simp only [hb, hT, reduceIte] at h) | skip
  refine L.Gn hb3 ?_
  refine L.Gn hb3 ?_
  refine L.Y (Y.pk (c := false) hb3) ?_
  refine L.Y Y.asg ?_
  refine AList.nil ?_
  obtain rfl := Option.some.inj h
  refine AWp.ret ?_
  exact ⟨.inr rfl, [(2, _)], _, ⟨rfl, rfl⟩, IsPart.at [] [] base0 .nil (E.c .nil)⟩

/-! ### spec_seIndifferent: function 38 -/
def spec_seIndifferent.f (k : Nat) (a0_0 : Int) (l0_1 : List Int) (a1 : Int) (a2 : Int) : Option (Bool) := (spec_orFree.f k a0_0 l0_1 a1).bind fun t156 => ((spec_orHas.f t156 a2).bind fun t157 => (some t157))
set_option maxRecDepth 100000 in
set_option maxHeartbeats 20000000 in
theorem spec_seIndifferent.ac (k : Nat) (a0_0 : Int) (l0_1 : List Int) (a1 : Int) (a2 : Int) (r : Bool) (h : spec_seIndifferent.f k a0_0 l0_1 a1 a2 = some r) :
  ACalls Tryd.prog 38 [.agg [.lit (.int .i64 a0_0), .row 1 l0_1.length false (ints .i64 l0_1)], .lit (.int .i64 a1), .lit (.int .i64 a2)] [] (fun v H' => v = .lit (.bool r) ∧ H' = []) := by
 refine ACalls.ofP [6] Tryd.func38 rfl (by exact Nat.le_of_ble_eq_true rfl) rfl (by decide) ?_
 simp only [Tryd.ntmps38, env0, spec_seIndifferent.f] at h ⊢
 refine AWp.seq ?_
 refine AWp.region ?_
 refine L.M M.bx ?_
 refine L.Y Y.asg ?_
 refine AList.nil ?_
 refine AWp.seq ?_
 refine AWp.region ?_
 refine L.S (S.ldN Tryd.underlying34 Y34) ?_
 refine L.Y Y.mv ?_
 replace h := Option.bind_eq_some_iff.1 h
 obtain ⟨t156, hc1, h⟩ := h
 refine L.C (C.callE (l := true) [] Tryd.func45 (spec_orFree.ac _ _ _ _ _ hc1) .nil ?_)
 refine L.Y Y.mv ?_
 replace h := Option.bind_eq_some_iff.1 h
 obtain ⟨t157, hc2, h⟩ := h
 refine L.C (C.callE (l := true) [] Tryd.func20 (spec_orHas.ac _ _ _ hc2) .nil ?_)
 refine L.Y Y.asg ?_
 refine AList.nil ?_
 obtain rfl := Option.some.inj h
 refine AWp.ret ?_
 exact ⟨.inr rfl, [(6, _)], _, ⟨rfl, rfl⟩, IsPart.at [] [] base0 .nil (E.c .nil)⟩

/-! ### spec_seTwoTwo: function 29 -/
mutual
def spec_seTwoTwo.l0 : Nat → Int → Int → List Int → Option (Bool)
 | 0, _, _, _ => none
 | k + 1, x3, x159000, x159001 => if x3 < x159000 then (if 0 ≤ x3 then (if x3 < (x159001.length : Int) then ((spec_orList.f k (rd x159001 x3)).bind fun t160 => (spec_seTwoTwo.l1 k x3 t160 (t160.length : Int) 0 x159000 x159001)) else (none)) else (none)) else (some false)
def spec_seTwoTwo.l1 : Nat → Int → List Int → Int → Int → Int → List Int → Option (Bool)
 | 0, _, _, _, _, _, _ => none
 | k + 1, x3, x20, x21, x22, x159000, x159001 => if x22 < x21 then (if 0 ≤ x22 then (if x22 < (x20.length : Int) then (spec_seTwoTwo.l2 k x3 (rd x20 x22) 0 x20 x21 x22 x159000 x159001) else (none)) else (none)) else (spec_seTwoTwo.l0 k (wrap64 (x3 + 1)) x159000 x159001)
def spec_seTwoTwo.l2 : Nat → Int → Int → Int → List Int → Int → Int → Int → List Int → Option (Bool)
 | 0, _, _, _, _, _, _, _, _ => none
 | k + 1, x3, x5, x6, x20, x21, x22, x159000, x159001 => if x6 < x159000 then (if 0 ≤ x6 then (if x6 < (x159001.length : Int) then ((spec_orList.f k (rd x159001 x6)).bind fun t165 => (spec_seTwoTwo.l3 k x3 x5 x6 x20 x21 x22 t165 (t165.length : Int) 0 x159000 x159001)) else (none)) else (none)) else (spec_seTwoTwo.l1 k x3 x20 x21 (wrap64 (x22 + 1)) x159000 x159001)
def spec_seTwoTwo.l3 : Nat → Int → Int → Int → List Int → Int → Int → List Int → Int → Int → Int → List Int → Option (Bool)
 | 0, _, _, _, _, _, _, _, _, _, _, _ => none
 | k + 1, x3, x5, x6, x20, x21, x22, x37, x38, x39, x159000, x159001 => if x39 < x38 then (if 0 ≤ x39 then (if x39 < (x37.length : Int) then ((spec_seIndifferent.f k x159000 x159001 x3 (rd x37 x39)).bind fun t169 => (if t169 = true then ((spec_seIndifferent.f k x159000 x159001 x6 x5).bind fun t170 => (if t170 = true then (some true) else (spec_seTwoTwo.l3 k x3 x5 x6 x20 x21 x22 x37 x38 (wrap64 (x39 + 1)) x159000 x159001))) else (spec_seTwoTwo.l3 k x3 x5 x6 x20 x21 x22 x37 x38 (wrap64 (x39 + 1)) x159000 x159001))) else (none)) else (none)) else (spec_seTwoTwo.l2 k x3 x5 (wrap64 (x6 + 1)) x20 x21 x22 x159000 x159001)
end
def spec_seTwoTwo.f (k : Nat) (a0_0 : Int) (l0_1 : List Int) : Option (Bool) := spec_seTwoTwo.l0 k 0 a0_0 l0_1
set_option maxRecDepth 100000 in
set_option maxHeartbeats 20000000 in
theorem spec_seTwoTwo.ac (k : Nat) (a0_0 : Int) (l0_1 : List Int) (r : Bool) (h : spec_seTwoTwo.f k a0_0 l0_1 = some r) :
  ACalls Tryd.prog 29 [.agg [.lit (.int .i64 a0_0), .row 1 l0_1.length false (ints .i64 l0_1)]] [] (fun v H' => v = .lit (.bool r) ∧ H' = []) := by
 refine ACalls.ofP [2] Tryd.func29 rfl (by exact Nat.le_of_ble_eq_true rfl) rfl (by decide) ?_
 simp only [Tryd.ntmps29, env0, spec_seTwoTwo.f] at h ⊢
 refine AWp.seq ?_
 refine AWp.region ?_
 refine L.M M.bx ?_
 refine L.Y Y.asg ?_
 refine AList.nil ?_
 refine AWp.seq ?_
 refine AWp.seq ?_
 refine AWp.region ?_
 refine L.Y Y.asg ?_
 refine AList.nil ?_
 refine AWp.block ?_
 refine AWp.loopI (fun kk e H => kk ≤ k ∧ ∃ (x3 : Int) (x159000 : Int), e = [(1, .ptr 0 0), (3, .lit (.int .i64 x3))] ∧ H = [.bx 34 [.lit (.int .i64 x159000), .row 1 l0_1.length false (ints .i64 l0_1)]] ∧ spec_seTwoTwo.l0 kk x3 x159000 l0_1 = some r) (k := k)
  ⟨_, _, ⟨Nat.le_refl _, _, _, rfl, rfl, h⟩, IsPart.at [] [0] base0 (H.c .nil) (E.c (E.c .nil))⟩ ?_
 clear h
 rintro k1 e H ⟨hk2, x3, x159000, rfl, rfl, h⟩
 cases k1 with
 | zero => exact absurd h (by simp [spec_seTwoTwo.l0])
 | succ k1 =>
 simp only [spec_seTwoTwo.l0] at h
 refine AWp.seq ?_
 refine AWp.seq ?_
 refine AWp.region ?_
 refine L.Y Y.mv ?_
 refine L.Y (Y.fa (off := 0) Tryd.underlying34 Y3) ?_
 refine L.S (S.ld Tryd.underlying3) ?_
 refine L.Y Y.bin ?_
 refine AList.nil ?_
 refine W.cond (fun hb => ?_) (fun hb => ?_)
 ·
  have hb3 := hb
  try simp only [hS, hE, ne_eq] at hb
  first | rw [if_pos hb3] at h | rw [if_neg (Bool.eq_false_iff.1 hb3)] at h | rw [if_pos hb] at h | rw [if_neg hb] at h | (simp only [hb, hT, reduceIte] at h) | skip
  repeat (first | (rw [iN] at h; obtain ⟨_, h⟩ := h) | (rw [iP] at h; obtain ⟨_, h⟩ := h) | (simp only [bS] at h))
  refine AWp.skip ?_
  refine AWp.seq ?_
  refine AWp.block ?_
  refine AWp.seq ?_
  refine AWp.region ?_
  refine L.Y (Y.fa (off := 1) Tryd.underlying34 Y32) ?_
  refine L.S (S.ld Tryd.underlying32) ?_
  refine L.Y Y.mv ?_
  refine L.Y (Y.ixr Tryd.underlying32 Y3) ?_
  refine L.S (S.ld Tryd.underlying3) ?_
  replace h := Option.bind_eq_some_iff.1 h
  obtain ⟨t160, hc4, h⟩ := h
  refine L.C (C.callE (l := true) [] Tryd.func37 (spec_orList.ac _ _ _ hc4) .nil ?_)
  refine L.Y (Y.ln Tryd.underlying32) ?_
  refine L.Y Y.mv ?_
  refine AList.nil ?_
  refine AWp.block ?_
  refine AWp.loopI (fun kk e H => kk ≤ k1 ∧ ∃ (x3 : Int) (x20 : List Int) (x21 : Int) (x22 : Int) (x159000 : Int), e = [(1, .ptr 0 0), (3, .lit (.int .i64 x3)), (20, .own 1 x20.length), (21, .lit (.int .i64 x21)), (22, .lit (.int .i64 x22))] ∧ H = [.bx 34 [.lit (.int .i64 x159000), .row 1 l0_1.length false (ints .i64 l0_1)], .sl 3 1 x20.length false (ints .i64 x20)] ∧ spec_seTwoTwo.l1 kk x3 x20 x21 x22 x159000 l0_1 = some r) (k := k1)
   ⟨_, _, ⟨Nat.le_refl _, _, _, _, _, _, rfl, rfl, h⟩, IsPart.at [] [0, 1] base0 (H.c (H.c .nil)) (E.c (E.c (E.c (E.c (E.c .nil)))))⟩ ?_
  clear h
  rintro k5 e H ⟨hk6, x3, x20, x21, x22, x159000, rfl, rfl, h⟩
  cases k5 with
  | zero => exact absurd h (by simp [spec_seTwoTwo.l1])
  | succ k5 =>
  simp only [spec_seTwoTwo.l1] at h
  refine AWp.seq ?_
  refine AWp.region ?_
  refine L.Y Y.bin ?_
  refine AList.nil ?_
  refine AWp.seq ?_
  refine W.cond (fun hb => ?_) (fun hb => ?_)
  ·
   have hb7 := hb
   try simp only [hS, hE, ne_eq] at hb
   first | rw [if_pos hb7] at h | rw [if_neg (Bool.eq_false_iff.1 hb7)] at h | rw [if_pos hb] at h | rw [if_neg hb] at h | (simp only [hb, hT, reduceIte] at h) | skip
   repeat (first | (rw [iN] at h; obtain ⟨_, h⟩ := h) | (rw [iP] at h; obtain ⟨_, h⟩ := h) | (simp only [bS] at h))
   refine AWp.skip ?_
   refine AWp.seq ?_
   refine AWp.block ?_
   refine AWp.seq ?_
   refine AWp.region ?_
   refine L.Y (Y.ixo Tryd.underlying32 Y3) ?_
   refine L.S (S.ld Tryd.underlying3) ?_
   refine L.Y Y.asg ?_
   refine AList.nil ?_
   refine AWp.seq ?_
   refine AWp.region ?_
   refine L.Y Y.asg ?_
   refine AList.nil ?_
   refine AWp.block ?_
   refine AWp.loopI (fun kk e H => kk ≤ k5 ∧ ∃ (x3 : Int) (x5 : Int) (x6 : Int) (x20 : List Int) (x21 : Int) (x22 : Int) (x159000 : Int), e = [(1, .ptr 0 0), (3, .lit (.int .i64 x3)), (5, .lit (.int .i64 x5)), (6, .lit (.int .i64 x6)), (20, .own 1 x20.length), (21, .lit (.int .i64 x21)), (22, .lit (.int .i64 x22))] ∧ H = [.bx 34 [.lit (.int .i64 x159000), .row 1 l0_1.length false (ints .i64 l0_1)], .sl 3 1 x20.length false (ints .i64 x20)] ∧ spec_seTwoTwo.l2 kk x3 x5 x6 x20 x21 x22 x159000 l0_1 = some r) (k := k5)
    ⟨_, _, ⟨Nat.le_refl _, _, _, _, _, _, _, _, rfl, rfl, h⟩, IsPart.at [] [0, 1] base0 (H.c (H.c .nil)) (E.c (E.c (E.c (E.c (E.c (E.c (E.c .nil)))))))⟩ ?_
   clear h
   rintro k8 e H ⟨hk9, x3, x5, x6, x20, x21, x22, x159000, rfl, rfl, h⟩
   cases k8 with
   | zero => exact absurd h (by simp [spec_seTwoTwo.l2])
   | succ k8 =>
   simp only [spec_seTwoTwo.l2] at h
   refine AWp.seq ?_
   refine AWp.seq ?_
   refine AWp.region ?_
   refine L.Y Y.mv ?_
   refine L.Y (Y.fa (off := 0) Tryd.underlying34 Y3) ?_
   refine L.S (S.ld Tryd.underlying3) ?_
   refine L.Y Y.bin ?_
   refine AList.nil ?_
   refine W.cond (fun hb => ?_) (fun hb => ?_)
   ·
    have hb10 := hb
    try simp only [hS, hE, ne_eq] at hb
    first | rw [if_pos hb10] at h | rw [if_neg (Bool.eq_false_iff.1 hb10)] at h | rw [if_pos hb] at h | rw [if_neg hb] at h | (simp only [hb, hT, reduceIte] at h) | skip
    repeat (first | (rw [iN] at h; obtain ⟨_, h⟩ := h) | (rw [iP] at h; obtain ⟨_, h⟩ := h) | (simp only [bS] at h))
    refine AWp.skip ?_
    refine AWp.seq ?_
    refine AWp.block ?_
    refine AWp.seq ?_
    refine AWp.region ?_
    refine L.Y (Y.fa (off := 1) Tryd.underlying34 Y32) ?_
    refine L.S (S.ld Tryd.underlying32) ?_
    refine L.Y Y.mv ?_
    refine L.Y (Y.ixr Tryd.underlying32 Y3) ?_
    refine L.S (S.ld Tryd.underlying3) ?_
    replace h := Option.bind_eq_some_iff.1 h
    obtain ⟨t165, hc11, h⟩ := h
    refine L.C (C.callE (l := true) [] Tryd.func37 (spec_orList.ac _ _ _ hc11) .nil ?_)
    refine L.Y (Y.ln Tryd.underlying32) ?_
    refine L.Y Y.mv ?_
    refine AList.nil ?_
    refine AWp.block ?_
    refine AWp.loopI (fun kk e H => kk ≤ k8 ∧ ∃ (x3 : Int) (x5 : Int) (x6 : Int) (x20 : List Int) (x21 : Int) (x22 : Int) (x37 : List Int) (x38 : Int) (x39 : Int) (x159000 : Int), e = [(1, .ptr 0 0), (3, .lit (.int .i64 x3)), (5, .lit (.int .i64 x5)), (6, .lit (.int .i64 x6)), (20, .own 1 x20.length), (21, .lit (.int .i64 x21)), (22, .lit (.int .i64 x22)), (37, .own 2 x37.length), (38, .lit (.int .i64 x38)), (39, .lit (.int .i64 x39))] ∧ H = [.bx 34 [.lit (.int .i64 x159000), .row 1 l0_1.length false (ints .i64 l0_1)], .sl 3 1 x20.length false (ints .i64 x20), .sl 3 1 x37.length false (ints .i64 x37)] ∧ spec_seTwoTwo.l3 kk x3 x5 x6 x20 x21 x22 x37 x38 x39 x159000 l0_1 = some r) (k := k8)
     ⟨_, _, ⟨Nat.le_refl _, _, _, _, _, _, _, _, _, _, _, rfl, rfl, h⟩, IsPart.at [] [0, 1, 2] base0 (H.c (H.c (H.c .nil))) (E.c (E.c (E.c (E.c (E.c (E.c (E.c (E.c (E.c (E.c .nil))))))))))⟩ ?_
    clear h
    rintro k12 e H ⟨hk13, x3, x5, x6, x20, x21, x22, x37, x38, x39, x159000, rfl, rfl, h⟩
    cases k12 with
    | zero => exact absurd h (by simp [spec_seTwoTwo.l3])
    | succ k12 =>
    simp only [spec_seTwoTwo.l3] at h
    refine AWp.seq ?_
    refine AWp.region ?_
    refine L.Y Y.bin ?_
    refine AList.nil ?_
    refine AWp.seq ?_
    refine W.cond (fun hb => ?_) (fun hb => ?_)
    ·
     have hb14 := hb
     try simp only [hS, hE, ne_eq] at hb
     first | rw [if_pos hb14] at h | rw [if_neg (Bool.eq_false_iff.1 hb14)] at h | rw [if_pos hb] at h | rw [if_neg hb] at h | (simp only [hb, hT, reduceIte] at h) | skip
     repeat (first | (rw [iN] at h; obtain ⟨_, h⟩ := h) | (rw [iP] at h; obtain ⟨_, h⟩ := h) | (simp only [bS] at h))
     refine AWp.skip ?_
     refine AWp.seq ?_
     refine AWp.block ?_
     refine AWp.seq ?_
     refine AWp.region ?_
     refine L.Y (Y.ixo Tryd.underlying32 Y3) ?_
     refine L.S (S.ld Tryd.underlying3) ?_
     refine L.Y Y.asg ?_
     refine AList.nil ?_
     refine AWp.seq ?_
     refine AWp.region ?_
     refine L.S (S.ldN Tryd.underlying34 Y34) ?_
     refine L.Y Y.mv ?_
     refine L.Y Y.mv ?_
     replace h := Option.bind_eq_some_iff.1 h
     obtain ⟨t169, hc15, h⟩ := h
     refine L.C (C.callE (l := true) [] Tryd.func38 (spec_seIndifferent.ac _ _ _ _ _ _ hc15) .nil ?_)
     refine L.Y Y.mv ?_
     refine L.Gc (fun hb => ?_) (fun hb => ?_)
     ·
      have hb16 := hb
      try simp only [hS, hE, ne_eq] at hb
      first | rw [if_pos hb16] at h | rw [if_neg (Bool.eq_false_iff.1 hb16)] at h | rw [if_pos hb] at h | rw [if_neg hb] at h | (simp only [hb, hT, reduceIte] at h) | skip
      refine L.Gs hb16 (S.ldN Tryd.underlying34 Y34) ?_
      refine L.Gy hb16 Y.mv ?_
      refine L.Gy hb16 Y.mv ?_
      replace h := Option.bind_eq_some_iff.1 h
      obtain ⟨t170, hc17, h⟩ := h
      refine L.GC hb16 (C.callE (l := true) [] Tryd.func38 (spec_seIndifferent.ac _ _ _ _ _ _ hc17) .nil ?_)
      refine L.Y (Y.pk (c := true) hb16) ?_
      refine AList.nil ?_
      refine W.cond (fun hb => ?_) (fun hb => ?_)
      ·
       have hb18 := hb
       try simp only [hS, hE, ne_eq] at hb
       first | rw [if_pos hb18] at h | rw [if_neg (Bool.eq_false_iff.1 hb18)] at h | rw [if_pos hb] at h | rw [if_neg hb] at h | (simp only [hb, hT, reduceIte] at h) | skip
       refine AWp.seq ?_
       refine W.kp [1, 3, 5, 6, 8, 20, 21, 22, 37, 38, 39, 40, 52] ?_
       refine AWp.region ?_
       refine L.Y Y.asg ?_
       refine AList.nil ?_
       obtain rfl := Option.some.inj h
       refine AWp.ret ?_
       exact ⟨.inr rfl, [(2, _)], _, ⟨rfl, rfl⟩, IsPart.at [] [] base0 .nil (E.c .nil)⟩
      ·
       have hb18 := hb
       try simp only [hS, hE, ne_eq] at hb
       first | rw [if_pos hb18] at h | rw [if_neg (Bool.eq_false_iff.1 hb18)] at h | rw [if_pos hb] at h | rw [if_neg hb] at h | (simp only [hb, hT, reduceIte] at h) | skip
       refine AWp.skip ?_
       refine W.kp [1, 3, 5, 6, 8, 20, 21, 22, 37, 38, 39, 40, 52] ?_
       refine AWp.region ?_
       refine L.Y Y.bin ?_
       refine L.Y Y.mv ?_
       refine AList.nil ?_
       exact ⟨k12, by omega, _, _, ⟨by omega, _, _, _, _, _, _, _, _, _, _, rfl, rfl, h⟩, IsPart.at [] [0, 1, 2] base0 (H.c (H.c (H.c .nil))) (E.c (E.c (E.c (E.c (E.c (E.c (E.c (E.c (E.c (E.c .nil))))))))))⟩
     ·
      have hb16 := hb
      try simp only [hS, hE, ne_eq] at hb
      first | rw [if_pos hb16] at h | rw [if_neg (Bool.eq_false_iff.1 hb16)] at h | rw [if_pos hb] at h | rw [if_neg hb] at h | (simp only [hb, hT, reduceIte] at h) | skip
      refine L.Gn hb16 ?_
      refine L.Gn hb16 ?_
      refine L.Gn hb16 ?_
      refine L.Gn hb16 ?_
      refine L.Y (Y.pk (c := false) hb16) ?_
      refine AList.nil ?_
      refine W.cond (fun hb => ?_) (fun hb => ?_)
      ·
       first | exact Bool.false_ne_true ((Eq.symm (by assumption)).trans hb) | exact Bool.false_ne_true (hb.symm.trans (by assumption)) | exact DD hb
      have hb19 := hb
      refine AWp.skip ?_
      refine W.kp [1, 3, 5, 6, 8, 20, 21, 22, 37, 38, 39, 40, 52] ?_
      refine AWp.region ?_
      refine L.Y Y.bin ?_
      refine L.Y Y.mv ?_
      refine AList.nil ?_
      exact ⟨k12, by omega, _, _, ⟨by omega, _, _, _, _, _, _, _, _, _, _, rfl, rfl, h⟩, IsPart.at [] [0, 1, 2] base0 (H.c (H.c (H.c .nil))) (E.c (E.c (E.c (E.c (E.c (E.c (E.c (E.c (E.c (E.c .nil))))))))))⟩
    ·
     have hb14 := hb
     try simp only [hS, hE, ne_eq] at hb
     first | rw [if_pos hb14] at h | rw [if_neg (Bool.eq_false_iff.1 hb14)] at h | rw [if_pos hb] at h | rw [if_neg hb] at h | (simp only [hb, hT, reduceIte] at h) | skip
     refine AWp.exit ?_
     refine AWp.region ?_
     refine L.Y Y.mv ?_
     refine L.Y Y.bin ?_
     refine L.Y Y.asg ?_
     refine AList.nil ?_
     exact ⟨k12, by omega, _, _, ⟨by omega, _, _, _, _, _, _, _, rfl, rfl, h⟩, IsPart.at [] [0, 1] base0 (H.c (H.c .nil)) (E.c (E.c (E.c (E.c (E.c (E.c (E.c .nil)))))))⟩
   ·
    have hb10 := hb
    try simp only [hS, hE, ne_eq] at hb
    first | rw [if_pos hb10] at h | rw [if_neg (Bool.eq_false_iff.1 hb10)] at h | rw [if_pos hb] at h | rw [if_neg hb] at h | (simp only [hb, hT, reduceIte] at h) | skip
    refine AWp.exit ?_
    refine AWp.region ?_
    refine L.Y Y.bin ?_
    refine L.Y Y.mv ?_
    refine AList.nil ?_
    exact ⟨k8, by omega, _, _, ⟨by omega, _, _, _, _, _, rfl, rfl, h⟩, IsPart.at [] [0, 1] base0 (H.c (H.c .nil)) (E.c (E.c (E.c (E.c (E.c .nil)))))⟩
  ·
   have hb7 := hb
   try simp only [hS, hE, ne_eq] at hb
   first | rw [if_pos hb7] at h | rw [if_neg (Bool.eq_false_iff.1 hb7)] at h | rw [if_pos hb] at h | rw [if_neg hb] at h | (simp only [hb, hT, reduceIte] at h) | skip
   refine AWp.exit ?_
   refine AWp.region ?_
   refine L.Y Y.mv ?_
   refine L.Y Y.bin ?_
   refine L.Y Y.asg ?_
   refine AList.nil ?_
   exact ⟨k5, by omega, _, _, ⟨by omega, _, _, rfl, rfl, h⟩, IsPart.at [] [0] base0 (H.c .nil) (E.c (E.c .nil))⟩
 ·
  have hb3 := hb
  try simp only [hS, hE, ne_eq] at hb
  first | rw [if_pos hb3] at h | rw [if_neg (Bool.eq_false_iff.1 hb3)] at h | rw [if_pos hb] at h | rw [if_neg hb] at h | (simp only [hb, hT, reduceIte] at h) | skip
  refine AWp.exit ?_
  refine AWp.seq ?_
  refine AWp.region ?_
  refine L.Y Y.asg ?_
  refine AList.nil ?_
  obtain rfl := Option.some.inj h
  refine AWp.ret ?_
  exact ⟨.inr rfl, [(2, _)], _, ⟨rfl, rfl⟩, IsPart.at [] [] base0 .nil (E.c .nil)⟩

end Go.Proofs.YtikboghjlpppjaaDoor.PFnExactOrdersOf
