-- Written by a program of this session's (wip/myprint2): the functions by the kit's print, the walks by awgen.py. Lean checks it.
import Derived.Test.YtakabmokpknknaaDoorPFnNearestOrdersx0
import Derived.Test.YtakabmokpknknaaDoorPFnNearestOrdersx1
import Derived.Test.YtakabmokpknknaaDoorPFnNearestOrdersx9
namespace Go.Proofs.YtakabmokpknknaaDoor.PFnNearestOrders
open Go.RowKit Go.Proofs.YtakabmokpknknaaDoorW.PrintWords Go.Proofs.YtakabmokpknknaaDoorW.PrintLast Go.Proofs.YtakabmokpknknaaDoorW.PrintMore Go.Proofs.YtakabmokpknknaaDoorM Go.Proofs.YtakabmokpknknaaDoorA Go.Proofs.YtakabmokpknknaaDoorT
attribute [local go_sem] max2_int min2_int max_two min_two max_three min_three max_four min_four   -- for this text's walks alone
set_option linter.unusedVariables false
set_option linter.unusedSimpArgs false

/-! ### spec_l1Cur_one: function 89 -/
def spec_l1Cur_one.f (s0_0 : List Int) (s0_1 : Int) (s0_2 : Int) (a1 : Int) : Option (Bool × Int × Int) := (spec_l1Cur_pick.f s0_0 s0_1 s0_2 a1).bind fun bt397 => (some ((bt397.1 == 0), bt397.2.1, bt397.2.2))
set_option maxRecDepth 100000 in
set_option maxHeartbeats 20000000 in
theorem spec_l1Cur_one.ac (s0_0 : List Int) (s0_1 : Int) (s0_2 : Int) (a1 : Int) (r1 : Bool) (r2 : Int) (r3 : Int) (h : spec_l1Cur_one.f s0_0 s0_1 s0_2 a1 = some (r1, r2, r3)) :
  ACalls Tryd.prog 89 [.ptr 0 0, .lit (.int .i64 a1)] [.bx 106 [.row 1 s0_0.length false (ints .u8 s0_0), .lit (.int .i64 s0_1), .lit (.int .u64 s0_2)]] (fun v H' => v = .lit (.bool r1) ∧ H' = [.bx 106 [.row 1 s0_0.length false (ints .u8 s0_0), .lit (.int .i64 r2), .lit (.int .u64 r3)]]) := by
 refine ACalls.ofP [4] Tryd.func89 rfl (by exact Nat.le_of_ble_eq_true rfl) rfl (by decide) ?_
 simp only [Tryd.ntmps89, env0, spec_l1Cur_one.f] at h ⊢
 refine AWp.seq ?_
 refine AWp.region ?_
 refine L.Y Y.asg ?_
 refine AList.nil ?_
 refine AWp.seq ?_
 refine AWp.region ?_
 refine L.Y Y.mv ?_
 refine L.Y Y.mv ?_
 replace h := Option.bind_eq_some_iff.1 h
 obtain ⟨⟨t397, t398, t399⟩, hc1, h⟩ := h
 dsimp only at h
 refine L.C (C.callE (l := false) [0] Tryd.func94 (spec_l1Cur_pick.ac _ _ _ _ _ _ _ hc1) (H.c .nil) ?_)
 refine L.Y Y.bin ?_
 refine L.Y Y.asg ?_
 refine AList.nil ?_
 simp only [Option.some.injEq, Prod.mk.injEq] at h
 obtain ⟨rfl, rfl, rfl⟩ := h
 refine AWp.ret ?_
 exact ⟨.inr rfl, [(4, _)], _, ⟨rfl, rfl⟩, IsPart.at [] [0] base1 (H.c .nil) (E.c .nil)⟩

/-! ### spec_l1Cur_relation: function 92 -/
mutual
def spec_l1Cur_relation.l0 : Nat → List Int → Int → Int → Int → List Int → Option (Int × List Int × Int × Int)
 | 0, _, _, _, _, _ => none
 | k + 1, x1000, x1001, x1002, x405000, x405001 => if (x405001.length : Int) < x405000 then (spec_l1Cur_relation.l1 k 0 0 x1000 x1001 x1002 x405000 x405001) else (some (x405000, x405001, x1001, x1002))
def spec_l1Cur_relation.l1 : Nat → Int → Int → List Int → Int → Int → Int → List Int → Option (Int × List Int × Int × Int)
 | 0, _, _, _, _, _, _, _ => none
 | k + 1, x6, x7, x1000, x1001, x1002, x405000, x405001 => if x7 < x405000 then ((spec_l1Cur_one.f x1000 x1001 x1002 4).bind fun bt405 => (if bt405.1 = true then (if 0 ≤ x7 then (spec_l1Cur_relation.l1 k (Go.bits .or .i64 x6 (shl .i64 1 x7)) (wrap64 (x7 + 1)) x1000 bt405.2.1 bt405.2.2 x405000 x405001) else (none)) else (spec_l1Cur_relation.l1 k x6 (wrap64 (x7 + 1)) x1000 bt405.2.1 bt405.2.2 x405000 x405001))) else (if x405001.length < 17592186044416 then (spec_l1Cur_relation.l0 k x1000 x1001 x1002 x405000 (x405001 ++ [x6])) else (none))
end
def spec_l1Cur_relation.f (k : Nat) (s0_0 : List Int) (s0_1 : Int) (s0_2 : Int) (a1 : Int) : Option (Int × List Int × Int × Int) := (spec_l1Cur_pick.f s0_0 s0_1 s0_2 (wrap64 (a1 + 1))).bind fun bt401 => (spec_l1Cur_relation.l0 k s0_0 bt401.2.1 bt401.2.2 bt401.1 ([] : List Int))
set_option maxRecDepth 100000 in
set_option maxHeartbeats 20000000 in
theorem spec_l1Cur_relation.ac (k : Nat) (s0_0 : List Int) (s0_1 : Int) (s0_2 : Int) (a1 : Int) (r1 : Int) (r2 : List Int) (r3 : Int) (r4 : Int) (h : spec_l1Cur_relation.f k s0_0 s0_1 s0_2 a1 = some (r1, r2, r3, r4)) :
  ACalls Tryd.prog 92 [.ptr 0 0, .lit (.int .i64 a1)] [.bx 106 [.row 1 s0_0.length false (ints .u8 s0_0), .lit (.int .i64 s0_1), .lit (.int .u64 s0_2)]] (fun v H' => v = .agg [.lit (.int .i64 r1), .own 1 r2.length] ∧ H' = [.bx 106 [.row 1 s0_0.length false (ints .u8 s0_0), .lit (.int .i64 r3), .lit (.int .u64 r4)], .sl 3 1 r2.length false (ints .i64 r2)]) := by
 refine ACalls.ofV Tryd.func92 rfl (by exact Nat.le_of_ble_eq_true rfl) ?_
 simp only [Tryd.ntmps92, env0, spec_l1Cur_relation.f] at h ⊢
 refine AWp.seq ?_
 refine AWp.region ?_
 refine L.M (M.al Y26) ?_
 refine AList.nil ?_
 refine AWp.seq ?_
 refine AWp.region ?_
 refine L.Y Y.mv ?_
 refine L.Y Y.mv ?_
 refine L.Y Y.bin ?_
 replace h := Option.bind_eq_some_iff.1 h
 obtain ⟨⟨t401, t402, t403⟩, hc1, h⟩ := h
 dsimp only at h
 refine L.C (C.callE (l := false) [0] Tryd.func94 (spec_l1Cur_pick.ac _ _ _ _ _ _ _ hc1) (H.c .nil) ?_)
 refine L.Y (Y.bd Tryd.underlying26 Y26 P26) ?_
 refine L.M (M.al Y26) ?_
 refine L.S (S.stb Y26) ?_
 refine AList.nil ?_
 refine AWp.seq ?_
 refine AWp.block ?_
 refine AWp.loopI (fun kk e H => kk ≤ k ∧ ∃ (x1001 : Int) (x1002 : Int) (x401000 : Int) (x405000 : Int) (x405001 : List Int), e = [(0, .ptr 0 0), (4, .ptr 1 0), (5, .ptr 2 0)] ∧ H = [.bx 106 [.row 1 s0_0.length false (ints .u8 s0_0), .lit (.int .i64 x1001), .lit (.int .u64 x1002)], .bx 26 [.lit (.int .i64 x401000), .lit (.slice none 0 0)], .bx 26 [.lit (.int .i64 x405000), .own 3 x405001.length], .sl 3 1 x405001.length false (ints .i64 x405001)] ∧ spec_l1Cur_relation.l0 kk s0_0 x1001 x1002 x405000 x405001 = some (r1, r2, r3, r4)) (k := k)
  ⟨_, _, ⟨Nat.le_refl _, _, _, _, _, _, rfl, rfl, h⟩, IsPart.at [(3, 1)] [0, 1, 2, 3] base1 (H.c (H.c (H.c (H.c .nil)))) (E.c (E.c (E.c .nil)))⟩ ?_
 clear h
 rintro k2 e H ⟨hk3, x1001, x1002, x401000, x405000, x405001, rfl, rfl, h⟩
 cases k2 with
 | zero => exact absurd h (by simp [spec_l1Cur_relation.l0])
 | succ k2 =>
 simp only [spec_l1Cur_relation.l0] at h
 refine AWp.seq ?_
 refine AWp.seq ?_
 refine AWp.region ?_
 refine L.Y (Y.fa (off := 1) Tryd.underlying26 Y22) ?_
 refine L.S (S.ld Tryd.underlying22) ?_
 refine L.Y (Y.ln Tryd.underlying22) ?_
 refine L.Y (Y.fa (off := 0) Tryd.underlying26 Y3) ?_
 refine L.S (S.ld Tryd.underlying3) ?_
 refine L.Y Y.bin ?_
 refine AList.nil ?_
 refine W.cond (fun hb => ?_) (fun hb => ?_)
 ·
  have hb4 := hb
  try simp only [hS, hE, ne_eq] at hb
  first | rw [if_pos hb4] at h | rw [if_neg (Bool.eq_false_iff.1 hb4)] at h | rw [if_pos hb] at h | rw [if_neg hb] at h | (simp only [hb, hT, reduceIte] at h) | skip
  refine AWp.skip ?_
  refine AWp.block ?_
  refine AWp.seq ?_
  refine W.kp [0, 4, 5, 18] ?_
  refine AWp.region ?_
  refine L.Y Y.asg ?_
  refine AList.nil ?_
  refine AWp.seq ?_
  refine AWp.seq ?_
  refine AWp.region ?_
  refine L.Y Y.asg ?_
  refine AList.nil ?_
  refine AWp.block ?_
  refine AWp.loopI (fun kk e H => kk ≤ k2 ∧ ∃ (x6 : Int) (x7 : Int) (x1001 : Int) (x1002 : Int) (x401000 : Int) (x405000 : Int) (x405001 : List Int), e = [(0, .ptr 0 0), (4, .ptr 1 0), (5, .ptr 2 0), (6, .lit (.int .i64 x6)), (7, .lit (.int .i64 x7))] ∧ H = [.bx 106 [.row 1 s0_0.length false (ints .u8 s0_0), .lit (.int .i64 x1001), .lit (.int .u64 x1002)], .bx 26 [.lit (.int .i64 x401000), .lit (.slice none 0 0)], .bx 26 [.lit (.int .i64 x405000), .own 3 x405001.length], .sl 3 1 x405001.length false (ints .i64 x405001)] ∧ spec_l1Cur_relation.l1 kk x6 x7 s0_0 x1001 x1002 x405000 x405001 = some (r1, r2, r3, r4)) (k := k2)
   ⟨_, _, ⟨Nat.le_refl _, _, _, _, _, _, _, _, rfl, rfl, h⟩, IsPart.at [] [0, 1, 2, 3] base1 (H.c (H.c (H.c (H.c .nil)))) (E.c (E.c (E.c (E.c (E.c .nil)))))⟩ ?_
  clear h
  rintro k5 e H ⟨hk6, x6, x7, x1001, x1002, x401000, x405000, x405001, rfl, rfl, h⟩
  cases k5 with
  | zero => exact absurd h (by simp [spec_l1Cur_relation.l1])
  | succ k5 =>
  simp only [spec_l1Cur_relation.l1] at h
  refine AWp.seq ?_
  refine AWp.seq ?_
  refine AWp.region ?_
  refine L.Y Y.mv ?_
  refine L.Y (Y.fa (off := 0) Tryd.underlying26 Y3) ?_
  refine L.S (S.ld Tryd.underlying3) ?_
  refine L.Y Y.bin ?_
  refine AList.nil ?_
  refine W.cond (fun hb => ?_) (fun hb => ?_)
  ·
   have hb7 := hb
   try simp only [hS, hE, ne_eq] at hb
   first | rw [if_pos hb7] at h | rw [if_neg (Bool.eq_false_iff.1 hb7)] at h | rw [if_pos hb] at h | rw [if_neg hb] at h | (simp only [hb, hT, reduceIte] at h) | skip
   refine AWp.skip ?_
   refine AWp.seq ?_
   refine AWp.block ?_
   refine AWp.seq ?_
   refine AWp.region ?_
   refine L.Y Y.mv ?_
   replace h := Option.bind_eq_some_iff.1 h
   obtain ⟨⟨t405, t406, t407⟩, hc8, h⟩ := h
   dsimp only at h
   refine L.C (C.callE (l := false) [0] Tryd.func89 (spec_l1Cur_one.ac _ _ _ _ _ _ _ hc8) (H.c .nil) ?_)
   refine AList.nil ?_
   refine W.cond (fun hb => ?_) (fun hb => ?_)
   ·
    have hb9 := hb
    try simp only [hS, hE, ne_eq] at hb
    first | rw [if_pos hb9] at h | rw [if_neg (Bool.eq_false_iff.1 hb9)] at h | rw [if_pos hb] at h | rw [if_neg hb] at h | (simp only [hb, hT, reduceIte] at h) | skip
    repeat (first | (rw [iN] at h; obtain ⟨_, h⟩ := h) | (rw [iP] at h; obtain ⟨_, h⟩ := h) | (simp only [bS] at h))
    refine W.kp [0, 4, 5, 6, 7, 22, 26] ?_
    refine AWp.region ?_
    refine L.Y Y.mv ?_
    refine L.Y Y.mv ?_
    refine L.Y Y.bin ?_
    refine L.Y Y.bin ?_
    refine L.Y Y.asg ?_
    refine AList.nil ?_
    refine W.kp [0, 4, 5, 6, 7, 22, 26] ?_
    refine AWp.region ?_
    refine L.Y Y.mv ?_
    refine L.Y Y.bin ?_
    refine L.Y Y.asg ?_
    refine AList.nil ?_
    exact ⟨k5, by omega, _, _, ⟨by omega, _, _, _, _, _, _, _, rfl, rfl, h⟩, IsPart.at [] [0, 1, 2, 3] base1 (H.c (H.c (H.c (H.c .nil)))) (E.c (E.c (E.c (E.c (E.c .nil)))))⟩
   ·
    have hb9 := hb
    try simp only [hS, hE, ne_eq] at hb
    first | rw [if_pos hb9] at h | rw [if_neg (Bool.eq_false_iff.1 hb9)] at h | rw [if_pos hb] at h | rw [if_neg hb] at h | (simp only [hb, hT, reduceIte] at h) | skip
    refine AWp.skip ?_
    refine W.kp [0, 4, 5, 6, 7, 22, 26] ?_
    refine AWp.region ?_
    refine L.Y Y.mv ?_
    refine L.Y Y.bin ?_
    refine L.Y Y.asg ?_
    refine AList.nil ?_
    exact ⟨k5, by omega, _, _, ⟨by omega, _, _, _, _, _, _, _, rfl, rfl, h⟩, IsPart.at [] [0, 1, 2, 3] base1 (H.c (H.c (H.c (H.c .nil)))) (E.c (E.c (E.c (E.c (E.c .nil)))))⟩
  ·
   have hb7 := hb
   try simp only [hS, hE, ne_eq] at hb
   first | rw [if_pos hb7] at h | rw [if_neg (Bool.eq_false_iff.1 hb7)] at h | rw [if_pos hb] at h | rw [if_neg hb] at h | (simp only [hb, hT, reduceIte] at h) | skip
   repeat (first | (rw [iN] at h; obtain ⟨_, h⟩ := h) | (rw [iP] at h; obtain ⟨_, h⟩ := h) | (simp only [bS] at h))
   refine AWp.exit ?_
   refine AWp.region ?_
   refine L.Y (Y.fa (off := 1) Tryd.underlying26 Y22) ?_
   refine L.S (S.ld Tryd.underlying22) ?_
   refine L.Y Y.mv ?_
   refine L.M (M.bs Tryd.underlying22 Y3) ?_
   refine L.S (S.ap (nn' := false) Tryd.underlying22 Y3) ?_
   refine L.Y (Y.fa (off := 1) Tryd.underlying26 Y22) ?_
   refine L.S (S.stb Y22) ?_
   refine AList.nil ?_
   exact ⟨k5, by omega, _, _, ⟨by omega, _, _, _, _, _, rfl, rfl, h⟩, IsPart.at [] [0, 1, 2, 3] base1 (H.c (H.c (H.c (H.c .nil)))) (E.c (E.c (E.c .nil)))⟩
 ·
  have hb4 := hb
  try simp only [hS, hE, ne_eq] at hb
  first | rw [if_pos hb4] at h | rw [if_neg (Bool.eq_false_iff.1 hb4)] at h | rw [if_pos hb] at h | rw [if_neg hb] at h | (simp only [hb, hT, reduceIte] at h) | skip
  refine AWp.exit ?_
  refine AWp.seq ?_
  refine W.kp [0, 4, 5, 18] ?_
  refine AWp.region ?_
  refine L.S (S.ldN Tryd.underlying26 Y26) ?_
  refine L.S (S.stb Y26) ?_
  refine AList.nil ?_
  simp only [Option.some.injEq, Prod.mk.injEq] at h
  obtain ⟨rfl, rfl, rfl, rfl⟩ := h
  refine AWp.ret ?_
  exact ⟨.inr rfl, _, _, _, Res.cl Tryd.underlying26 Y26, ⟨rfl, rfl⟩, PartV.at [] [0, 3] base1 (H.c (H.c .nil))⟩

/-! ### spec_l1Cur_among: function 93 -/
def spec_l1Cur_among.f (s0_0 : List Int) (s0_1 : Int) (s0_2 : Int) (l1 : List Int) : Option (Int × Int × Int) := (spec_l1Cur_pick.f s0_0 s0_1 s0_2 (l1.length : Int)).bind fun bt411 => (if 0 ≤ bt411.1 then (if bt411.1 < (l1.length : Int) then (some (rd l1 bt411.1, bt411.2.1, bt411.2.2)) else (none)) else (none))
set_option maxRecDepth 100000 in
set_option maxHeartbeats 20000000 in
theorem spec_l1Cur_among.ac (s0_0 : List Int) (s0_1 : Int) (s0_2 : Int) (l1 : List Int) (r1 : Int) (r2 : Int) (r3 : Int) (h : spec_l1Cur_among.f s0_0 s0_1 s0_2 l1 = some (r1, r2, r3)) :
  ACalls Tryd.prog 93 [.ptr 0 0, .row 1 l1.length false (ints .i64 l1)] [.bx 106 [.row 1 s0_0.length false (ints .u8 s0_0), .lit (.int .i64 s0_1), .lit (.int .u64 s0_2)]] (fun v H' => v = .lit (.int .i64 r1) ∧ H' = [.bx 106 [.row 1 s0_0.length false (ints .u8 s0_0), .lit (.int .i64 r2), .lit (.int .u64 r3)]]) := by
 refine ACalls.ofP [4] Tryd.func93 rfl (by exact Nat.le_of_ble_eq_true rfl) rfl (by decide) ?_
 simp only [Tryd.ntmps93, env0, spec_l1Cur_among.f] at h ⊢
 refine AWp.seq ?_
 refine AWp.region ?_
 refine L.Y Y.asg ?_
 refine AList.nil ?_
 refine AWp.seq ?_
 refine AWp.region ?_
 refine L.Y Y.mv ?_
 refine L.Y Y.mv ?_
 refine L.Y Y.mv ?_
 refine L.Y (Y.ln Tryd.underlying22) ?_
 replace h := Option.bind_eq_some_iff.1 h
 obtain ⟨⟨t411, t412, t413⟩, hc1, h⟩ := h
 dsimp only at h
 repeat (first | (rw [iN] at h; obtain ⟨_, h⟩ := h) | (rw [iP] at h; obtain ⟨_, h⟩ := h) | (simp only [bS] at h))
 refine L.C (C.callE (l := false) [0] Tryd.func94 (spec_l1Cur_pick.ac _ _ _ _ _ _ _ hc1) (H.c .nil) ?_)
 refine L.Y (Y.ixr Tryd.underlying22 Y3) ?_
 refine L.S (S.ld Tryd.underlying3) ?_
 refine L.Y Y.asg ?_
 refine AList.nil ?_
 simp only [Option.some.injEq, Prod.mk.injEq] at h
 obtain ⟨rfl, rfl, rfl⟩ := h
 refine AWp.ret ?_
 exact ⟨.inr rfl, [(4, _)], _, ⟨rfl, rfl⟩, IsPart.at [] [0] base1 (H.c .nil) (E.c .nil)⟩

/-! ### spec_CloseRelation: function 200 -/
mutual
def spec_CloseRelation.l0 : Nat → Int → Int → Int → List Int → Option (Int × List Int × Bool)
 | 0, _, _, _, _ => none
 | k + 1, x19, x20, x422000, x422001 => if x20 < x19 then (spec_CloseRelation.l1 k x20 x19 x20 (x422001.length : Int) 0 x422000 x422001) else (some (x422000, x422001, true))
def spec_CloseRelation.l1 : Nat → Int → Int → Int → Int → Int → Int → List Int → Option (Int × List Int × Bool)
 | 0, _, _, _, _, _, _, _ => none
 | k + 1, x5, x19, x20, x25, x26, x422000, x422001 => if x26 < x25 then (if 0 ≤ x26 then (if x26 < (x422001.length : Int) then ((spec_orHas.f (rd x422001 x26) x5).bind fun t423 => (if t423 = true then (if 0 ≤ x5 then (if x5 < (x422001.length : Int) then (spec_CloseRelation.l1 k x5 x19 x20 x25 (wrap64 (x26 + 1)) x422000 (x422001.set (x26 : Int).toNat (Go.bits .or .i64 (rd x422001 x26) (rd x422001 x5)))) else (none)) else (none)) else (spec_CloseRelation.l1 k x5 x19 x20 x25 (wrap64 (x26 + 1)) x422000 x422001))) else (none)) else (none)) else (spec_CloseRelation.l0 k x19 (wrap64 (x20 + 1)) x422000 x422001)
end
def spec_CloseRelation.f (k : Nat) (a0_0 : Int) (l0_1 : List Int) : Option (Int × List Int × Bool) := (spec_orRelation.f k a0_0 l0_1).bind fun t417 => (if t417 = true then ((spec_l1Own.f l0_1).bind fun t418 => (spec_CloseRelation.l0 k (t418.length : Int) 0 a0_0 t418)) else (some (0, ([] : List Int), false)))
set_option maxRecDepth 100000 in
set_option maxHeartbeats 20000000 in
theorem spec_CloseRelation.ac (k : Nat) (a0_0 : Int) (l0_1 : List Int) (r1 : Int) (r2 : List Int) (r3 : Bool) (h : spec_CloseRelation.f k a0_0 l0_1 = some (r1, r2, r3)) :
  ACalls Tryd.prog 200 [.agg [.lit (.int .i64 a0_0), .row 1 l0_1.length false (ints .i64 l0_1)]] [] (fun v H' => v = .tup [.agg [.lit (.int .i64 r1), .own 0 r2.length], .lit (.bool r3)] ∧ H' = [.sl 3 1 r2.length false (ints .i64 r2)]) := by
 refine ACalls.ofV Tryd.func200 rfl (by exact Nat.le_of_ble_eq_true rfl) ?_
 simp only [Tryd.ntmps200, env0, spec_CloseRelation.f] at h ⊢
 refine AWp.seq ?_
 refine AWp.region ?_
 refine L.M M.bx ?_
 refine L.M (M.al Y26) ?_
 refine L.Y Y.asg ?_
 refine AList.nil ?_
 refine AWp.seq ?_
 refine AWp.seq ?_
 refine AWp.region ?_
 refine L.S (S.ldN Tryd.underlying26 Y26) ?_
 replace h := Option.bind_eq_some_iff.1 h
 obtain ⟨t417, hc1, h⟩ := h
 refine L.C (C.callE (l := true) [] Tryd.func76 (spec_orRelation.ac _ _ _ _ hc1) .nil ?_)
 refine L.Y Y.nt ?_
 refine AList.nil ?_
 refine W.cond (fun hb => ?_) (fun hb => ?_)
 ·
  have hb2 := hb
  try simp only [hS, hE, ne_eq] at hb
  first | rw [if_pos hb2] at h | rw [if_neg (Bool.eq_false_iff.1 hb2)] at h | rw [if_pos hb] at h | rw [if_neg hb] at h | (simp only [hb, hT, reduceIte] at h) | skip
  refine AWp.seq ?_
  refine AWp.region ?_
  refine L.Y (Y.bd Tryd.underlying26 Y26 P26) ?_
  refine L.S (S.stb Y26) ?_
  refine L.Y Y.asg ?_
  refine AList.nil ?_
  simp only [Option.some.injEq, Prod.mk.injEq] at h
  obtain ⟨rfl, rfl, rfl⟩ := h
  refine AWp.ret ?_
  exact ⟨.inr rfl, _, _, _, Res.c2 Tryd.underlying26 Y26, ⟨rfl, rfl⟩, PartV.at [(3, 1)] [2] base0 (H.c .nil)⟩
 ·
  have hb2 := hb
  try simp only [hS, hE, ne_eq] at hb
  first | rw [if_pos hb2] at h | rw [if_neg (Bool.eq_false_iff.1 hb2)] at h | rw [if_pos hb] at h | rw [if_neg hb] at h | (simp only [hb, hT, reduceIte] at h) | skip
  refine AWp.skip ?_
  refine AWp.seq ?_
  replace h := Option.bind_eq_some_iff.1 h
  obtain ⟨t418, hc3, h⟩ := h
  apply AWp.joinX
  ·
   refine Dt.reg [] [7] (.y 0 (.t 1 (.y 2 (.t 3 (.two 4 (.y 5 (.one 6 (.last 7 .done))) 6 (.one 4 (.y 5 (.last 7 .done)))))))) HM ?_
   refine Dt.Y rfl wantN (Y.fa (off := 0) Tryd.underlying26 Y3) ?_
   refine Dt.T rfl wantN (D.ld Tryd.underlying3) ?_
   refine Dt.Y rfl wantN (Y.fa (off := 1) Tryd.underlying26 Y22) ?_
   refine Dt.T rfl wantN (D.ld Tryd.underlying22) ?_
   refine Dt.B (g1 := false) (g2 := false) rfl rfl wantN wantN ?_ ?_
   ·
    skip
    refine Ox.C true [] Tryd.func150 (spec_l1Own.ac _ _ hc3) .nil ?_
    refine Dt.Y rfl wantN (Y.bd Tryd.underlying26 Y26 P26) ?_
    refine Dt.O (g' := false) rfl wantN ?_
    refine Ox.M (M.al Y26) ?_
    refine Dt.L rfl wantN ?_
    refine Op.S (S.stb Y26) ?_
    refine Du.nil ?_
    exact ⟨rfl, .inl ⟨rfl, rfl⟩⟩
   ·
    skip
    refine Ox.M (M.al Y26) ?_
    refine Dt.O (g' := false) rfl wantN ?_
    refine Ox.C true [] Tryd.func150 (spec_l1Own.ac _ _ hc3) .nil ?_
    refine Dt.Y rfl wantN (Y.bd Tryd.underlying26 Y26 P26) ?_
    refine Dt.L rfl wantN ?_
    refine Op.S (S.stb Y26) ?_
    refine Du.nil ?_
    exact ⟨rfl, .inr (IsPart.at [] [0, 1, 3, 2] base0 (H.c (H.c (H.c (H.c .nil)))) (by repeat' first | exact .nil | refine E.c ?_))⟩
  ·
   skip
   refine AWp.seq ?_
   refine AWp.seq ?_
   refine W.kp [0, 1, 2, 3, 4, 9] ?_
   refine AWp.region ?_
   refine L.Y (Y.fa (off := 1) Tryd.underlying26 Y22) ?_
   refine L.S (S.ld Tryd.underlying22) ?_
   refine L.Y (Y.ln Tryd.underlying22) ?_
   refine L.Y Y.mv ?_
   refine AList.nil ?_
   refine AWp.block ?_
   refine AWp.loopI (fun kk e H => kk ≤ k ∧ ∃ (x19 : Int) (x20 : Int) (x416000 : Int) (x417000 : Int) (x422000 : Int) (x422001 : List Int), e = [(1, .ptr 0 0), (2, .ptr 1 0), (4, .ptr 2 0), (19, .lit (.int .i64 x19)), (20, .lit (.int .i64 x20))] ∧ H = [.bx 26 [.lit (.int .i64 x416000), .row 1 l0_1.length false (ints .i64 l0_1)], .bx 26 [.lit (.int .i64 x417000), .lit (.slice none 0 0)], .bx 26 [.lit (.int .i64 x422000), .own 3 x422001.length], .sl 3 1 x422001.length false (ints .i64 x422001)] ∧ spec_CloseRelation.l0 kk x19 x20 x422000 x422001 = some (r1, r2, r3)) (k := k)
    ⟨_, _, ⟨Nat.le_refl _, _, _, _, _, _, _, rfl, rfl, h⟩, IsPart.at [] [0, 1, 3, 2] base0 (H.c (H.c (H.c (H.c .nil)))) (E.c (E.c (E.c (E.c (E.c .nil)))))⟩ ?_
   clear h
   rintro k4 e H ⟨hk5, x19, x20, x416000, x417000, x422000, x422001, rfl, rfl, h⟩
   cases k4 with
   | zero => exact absurd h (by simp [spec_CloseRelation.l0])
   | succ k4 =>
   simp only [spec_CloseRelation.l0] at h
   refine AWp.seq ?_
   refine AWp.region ?_
   refine L.Y Y.bin ?_
   refine AList.nil ?_
   refine AWp.seq ?_
   refine W.cond (fun hb => ?_) (fun hb => ?_)
   ·
    have hb6 := hb
    try simp only [hS, hE, ne_eq] at hb
    first | rw [if_pos hb6] at h | rw [if_neg (Bool.eq_false_iff.1 hb6)] at h | rw [if_pos hb] at h | rw [if_neg hb] at h | (simp only [hb, hT, reduceIte] at h) | skip
    refine AWp.skip ?_
    refine AWp.seq ?_
    refine AWp.block ?_
    refine AWp.seq ?_
    refine AWp.region ?_
    refine L.Y Y.mv ?_
    refine L.Y Y.asg ?_
    refine AList.nil ?_
    refine AWp.seq ?_
    refine AWp.region ?_
    refine L.Y (Y.fa (off := 1) Tryd.underlying26 Y22) ?_
    refine L.S (S.ld Tryd.underlying22) ?_
    refine L.Y (Y.ln Tryd.underlying22) ?_
    refine L.Y Y.mv ?_
    refine AList.nil ?_
    refine AWp.block ?_
    refine AWp.loopI (fun kk e H => kk ≤ k4 ∧ ∃ (x5 : Int) (x19 : Int) (x20 : Int) (x25 : Int) (x26 : Int) (x416000 : Int) (x417000 : Int) (x422000 : Int) (x422001 : List Int), e = [(1, .ptr 0 0), (2, .ptr 1 0), (4, .ptr 2 0), (5, .lit (.int .i64 x5)), (19, .lit (.int .i64 x19)), (20, .lit (.int .i64 x20)), (25, .lit (.int .i64 x25)), (26, .lit (.int .i64 x26))] ∧ H = [.bx 26 [.lit (.int .i64 x416000), .row 1 l0_1.length false (ints .i64 l0_1)], .bx 26 [.lit (.int .i64 x417000), .lit (.slice none 0 0)], .bx 26 [.lit (.int .i64 x422000), .own 3 x422001.length], .sl 3 1 x422001.length false (ints .i64 x422001)] ∧ spec_CloseRelation.l1 kk x5 x19 x20 x25 x26 x422000 x422001 = some (r1, r2, r3)) (k := k4)
     ⟨_, _, ⟨Nat.le_refl _, _, _, _, _, _, _, _, _, _, rfl, rfl, h⟩, IsPart.at [] [0, 1, 2, 3] base0 (H.c (H.c (H.c (H.c .nil)))) (E.c (E.c (E.c (E.c (E.c (E.c (E.c (E.c .nil))))))))⟩ ?_
    clear h
    rintro k7 e H ⟨hk8, x5, x19, x20, x25, x26, x416000, x417000, x422000, x422001, rfl, rfl, h⟩
    cases k7 with
    | zero => exact absurd h (by simp [spec_CloseRelation.l1])
    | succ k7 =>
    simp only [spec_CloseRelation.l1] at h
    refine AWp.seq ?_
    refine AWp.region ?_
    refine L.Y Y.bin ?_
    refine AList.nil ?_
    refine AWp.seq ?_
    refine W.cond (fun hb => ?_) (fun hb => ?_)
    ·
     have hb9 := hb
     try simp only [hS, hE, ne_eq] at hb
     first | rw [if_pos hb9] at h | rw [if_neg (Bool.eq_false_iff.1 hb9)] at h | rw [if_pos hb] at h | rw [if_neg hb] at h | (simp only [hb, hT, reduceIte] at h) | skip
     repeat (first | (rw [iN] at h; obtain ⟨_, h⟩ := h) | (rw [iP] at h; obtain ⟨_, h⟩ := h) | (simp only [bS] at h))
     refine AWp.skip ?_
     refine AWp.seq ?_
     refine AWp.block ?_
     refine AWp.seq ?_
     refine AWp.region ?_
     refine L.Y Y.mv ?_
     refine L.Y Y.asg ?_
     refine AList.nil ?_
     refine AWp.seq ?_
     refine AWp.region ?_
     refine L.Y (Y.fa (off := 1) Tryd.underlying26 Y22) ?_
     refine L.S (S.ld Tryd.underlying22) ?_
     refine L.Y Y.mv ?_
     refine L.Y (Y.ixo Tryd.underlying22 Y3) ?_
     refine L.S (S.ld Tryd.underlying3) ?_
     refine L.Y Y.mv ?_
     replace h := Option.bind_eq_some_iff.1 h
     obtain ⟨t423, hc10, h⟩ := h
     refine L.C (C.callE (l := true) [] Tryd.func152 (spec_orHas.ac _ _ _ hc10) .nil ?_)
     refine AList.nil ?_
     refine W.cond (fun hb => ?_) (fun hb => ?_)
     ·
      have hb11 := hb
      try simp only [hS, hE, ne_eq] at hb
      first | rw [if_pos hb11] at h | rw [if_neg (Bool.eq_false_iff.1 hb11)] at h | rw [if_pos hb] at h | rw [if_neg hb] at h | (simp only [hb, hT, reduceIte] at h) | skip
      repeat (first | (rw [iN] at h; obtain ⟨_, h⟩ := h) | (rw [iP] at h; obtain ⟨_, h⟩ := h) | (simp only [bS] at h))
      refine W.kp [1, 2, 4, 5, 6, 19, 20, 25, 26, 27, 35] ?_
      refine Dt.reg [] [12] (.y 0 (.t 1 (.y 2 (.y 3 (.t 4 (.y 5 (.t 6 (.y 7 (.y 8 (.t 9 (.y 10 (.y 11 (.last 12 .done))))))))))))) HM ?_
      refine Dt.Y rfl wantN (Y.fa (off := 1) Tryd.underlying26 Y22) ?_
      refine Dt.T rfl wantN (D.ld Tryd.underlying22) ?_
      refine Dt.Y rfl wantN Y.mv ?_
      refine Dt.Y rfl wantN (Y.ixo Tryd.underlying22 Y3) ?_
      refine Dt.T rfl wantN (D.ld Tryd.underlying3) ?_
      refine Dt.Y rfl wantN (Y.fa (off := 1) Tryd.underlying26 Y22) ?_
      refine Dt.T rfl wantN (D.ld Tryd.underlying22) ?_
      refine Dt.Y rfl wantN Y.mv ?_
      refine Dt.Y rfl wantN (Y.ixo Tryd.underlying22 Y3) ?_
      refine Dt.T rfl wantN (D.ld Tryd.underlying3) ?_
      refine Dt.Y rfl wantN Y.bin ?_
      refine Dt.Y rfl wantN (Y.ixo Tryd.underlying22 Y3) ?_
      refine Dt.L rfl wantN ?_
      refine Op.S (S.sts Y3) ?_
      refine Du.nil ?_
      refine W.kp [1, 2, 4, 5, 6, 19, 20, 25, 26, 27, 35] ?_
      refine AWp.region ?_
      refine L.Y Y.bin ?_
      refine L.Y Y.mv ?_
      refine AList.nil ?_
      exact ⟨k7, by omega, _, _, ⟨by omega, _, _, _, _, _, _, _, _, _, rfl, rfl, h⟩, IsPart.at [] [0, 1, 2, 3] base0 (H.c (H.c (H.c (H.c .nil)))) (E.c (E.c (E.c (E.c (E.c (E.c (E.c (E.c .nil))))))))⟩
     ·
      have hb11 := hb
      try simp only [hS, hE, ne_eq] at hb
      first | rw [if_pos hb11] at h | rw [if_neg (Bool.eq_false_iff.1 hb11)] at h | rw [if_pos hb] at h | rw [if_neg hb] at h | (simp only [hb, hT, reduceIte] at h) | skip
      refine AWp.skip ?_
      refine W.kp [1, 2, 4, 5, 6, 19, 20, 25, 26, 27, 35] ?_
      refine AWp.region ?_
      refine L.Y Y.bin ?_
      refine L.Y Y.mv ?_
      refine AList.nil ?_
      exact ⟨k7, by omega, _, _, ⟨by omega, _, _, _, _, _, _, _, _, _, rfl, rfl, h⟩, IsPart.at [] [0, 1, 2, 3] base0 (H.c (H.c (H.c (H.c .nil)))) (E.c (E.c (E.c (E.c (E.c (E.c (E.c (E.c .nil))))))))⟩
    ·
     have hb9 := hb
     try simp only [hS, hE, ne_eq] at hb
     first | rw [if_pos hb9] at h | rw [if_neg (Bool.eq_false_iff.1 hb9)] at h | rw [if_pos hb] at h | rw [if_neg hb] at h | (simp only [hb, hT, reduceIte] at h) | skip
     refine AWp.exit ?_
     refine AWp.region ?_
     refine L.Y Y.bin ?_
     refine L.Y Y.mv ?_
     refine AList.nil ?_
     exact ⟨k7, by omega, _, _, ⟨by omega, _, _, _, _, _, _, rfl, rfl, h⟩, IsPart.at [] [0, 1, 2, 3] base0 (H.c (H.c (H.c (H.c .nil)))) (E.c (E.c (E.c (E.c (E.c .nil)))))⟩
   ·
    have hb6 := hb
    try simp only [hS, hE, ne_eq] at hb
    first | rw [if_pos hb6] at h | rw [if_neg (Bool.eq_false_iff.1 hb6)] at h | rw [if_pos hb] at h | rw [if_neg hb] at h | (simp only [hb, hT, reduceIte] at h) | skip
    refine AWp.exit ?_
    refine AWp.seq ?_
    refine AWp.region ?_
    refine L.S (S.ldN Tryd.underlying26 Y26) ?_
    refine L.S (S.stb Y26) ?_
    refine L.Y Y.asg ?_
    refine AList.nil ?_
    simp only [Option.some.injEq, Prod.mk.injEq] at h
    obtain ⟨rfl, rfl, rfl⟩ := h
    refine AWp.ret ?_
    exact ⟨.inr rfl, _, _, _, Res.c2 Tryd.underlying26 Y26, ⟨rfl, rfl⟩, PartV.at [] [3] base0 (H.c .nil)⟩

end Go.Proofs.YtakabmokpknknaaDoor.PFnNearestOrders
