-- Written by a program of this session's (wip/myprint2): the functions by the kit's print, the walks by awgen.py. Lean checks it.
import Derived.Test.YtakabmokpknknaaDoorPFnTablesOfRelationsx0
import Derived.Test.YtakabmokpknknaaDoorPFnTablesOfRelationsx6
import Derived.Test.YtakabmokpknknaaDoorPFnTablesOfRelationsx7
namespace Go.Proofs.YtakabmokpknknaaDoor.PFnTablesOfRelations
open Go.RowKit Go.Proofs.YtakabmokpknknaaDoorW.PrintWords Go.Proofs.YtakabmokpknknaaDoorW.PrintLast Go.Proofs.YtakabmokpknknaaDoorW.PrintMore Go.Proofs.YtakabmokpknknaaDoorM Go.Proofs.YtakabmokpknknaaDoorA Go.Proofs.YtakabmokpknknaaDoorT
attribute [local go_sem] max2_int min2_int max_two min_two max_three min_three max_four min_four   -- for this text's walks alone
set_option linter.unusedVariables false
set_option linter.unusedSimpArgs false

/-! ### spec_l1Cur_order: function 158 -/
mutual
def spec_l1Cur_order.l0 : Nat → Int → Int → List Int → List Int → Int → List Int → Int → Int → Int → List Int → Option (Int × List Int × Int × Int)
 | 0, _, _, _, _, _, _, _, _, _, _ => none
 | k + 1, x5, x7, x8, x9, x10, x1000, x1001, x1002, x291000, x291001 => if x10 < x5 then ((spec_l1Cur_pick.f x1000 x1001 x1002 8).bind fun bt294 => (if x8.length < 17592186044416 then ((some (x8 ++ [bt294.1] : List Int)).bind fun y297 => (if x7 = 1 then ((spec_l1Cur_pick.f x1000 bt294.2.1 bt294.2.2 4).bind fun bt300 => (if x9.length < 17592186044416 then (spec_l1Cur_order.l0 k x5 x7 y297 (x9 ++ [wrap64 (bt294.1 + bt300.1)]) (wrap64 (x10 + 1)) x1000 bt300.2.1 bt300.2.2 x291000 x291001) else (none))) else (if x9.length < 17592186044416 then (spec_l1Cur_order.l0 k x5 x7 y297 (x9 ++ [wrap64 (bt294.1 + 2)]) (wrap64 (x10 + 1)) x1000 bt294.2.1 bt294.2.2 x291000 x291001) else (none)))) else (none))) else (spec_l1Cur_order.l1 k x5 x7 x8 x9 0 x1000 x1001 x1002 x291000 x291001)
def spec_l1Cur_order.l1 : Nat → Int → Int → List Int → List Int → Int → List Int → Int → Int → Int → List Int → Option (Int × List Int × Int × Int)
 | 0, _, _, _, _, _, _, _, _, _, _ => none
 | k + 1, x5, x7, x8, x9, x12, x1000, x1001, x1002, x291000, x291001 => if x12 < x5 then (spec_l1Cur_order.l2 k x5 x7 x8 x9 x12 0 x1000 x1001 x1002 x291000 x291001) else (if x7 > 0 then (some (x291000, x291001, x1001, x1002)) else ((spec_CloseRelation.f k x291000 x291001).bind fun bt309 => (some (bt309.1, bt309.2.1, x1001, x1002))))
def spec_l1Cur_order.l2 : Nat → Int → Int → List Int → List Int → Int → Int → List Int → Int → Int → Int → List Int → Option (Int × List Int × Int × Int)
 | 0, _, _, _, _, _, _, _, _, _, _, _ => none
 | k + 1, x5, x7, x8, x9, x12, x13, x1000, x1001, x1002, x291000, x291001 => if x13 < x5 then (if x7 > 0 then (if 0 ≤ x12 then (if x12 < (x9.length : Int) then (if 0 ≤ x13 then (if x13 < (x8.length : Int) then (if (rd x9 x12) < (rd x8 x13) then (if x12 < (x291001.length : Int) then (spec_l1Cur_order.l2 k x5 x7 x8 x9 x12 (wrap64 (x13 + 1)) x1000 x1001 x1002 x291000 (x291001.set (x12 : Int).toNat (Go.bits .or .i64 (rd x291001 x12) (shl .i64 1 x13)))) else (none)) else (if x7 = 0 then (if x12 < x13 then ((spec_l1Cur_one.f x1000 x1001 x1002 3).bind fun bt319 => (if bt319.1 = true then (if x12 < (x291001.length : Int) then (spec_l1Cur_order.l2 k x5 x7 x8 x9 x12 (wrap64 (x13 + 1)) x1000 bt319.2.1 bt319.2.2 x291000 (x291001.set (x12 : Int).toNat (Go.bits .or .i64 (rd x291001 x12) (shl .i64 1 x13)))) else (none)) else (spec_l1Cur_order.l2 k x5 x7 x8 x9 x12 (wrap64 (x13 + 1)) x1000 bt319.2.1 bt319.2.2 x291000 x291001))) else (spec_l1Cur_order.l2 k x5 x7 x8 x9 x12 (wrap64 (x13 + 1)) x1000 x1001 x1002 x291000 x291001)) else (spec_l1Cur_order.l2 k x5 x7 x8 x9 x12 (wrap64 (x13 + 1)) x1000 x1001 x1002 x291000 x291001))) else (none)) else (none)) else (none)) else (none)) else (if x7 = 0 then (if x12 < x13 then ((spec_l1Cur_one.f x1000 x1001 x1002 3).bind fun bt324 => (if bt324.1 = true then (if 0 ≤ x12 then (if x12 < (x291001.length : Int) then (if 0 ≤ x13 then (spec_l1Cur_order.l2 k x5 x7 x8 x9 x12 (wrap64 (x13 + 1)) x1000 bt324.2.1 bt324.2.2 x291000 (x291001.set (x12 : Int).toNat (Go.bits .or .i64 (rd x291001 x12) (shl .i64 1 x13)))) else (none)) else (none)) else (none)) else (spec_l1Cur_order.l2 k x5 x7 x8 x9 x12 (wrap64 (x13 + 1)) x1000 bt324.2.1 bt324.2.2 x291000 x291001))) else (spec_l1Cur_order.l2 k x5 x7 x8 x9 x12 (wrap64 (x13 + 1)) x1000 x1001 x1002 x291000 x291001)) else (spec_l1Cur_order.l2 k x5 x7 x8 x9 x12 (wrap64 (x13 + 1)) x1000 x1001 x1002 x291000 x291001))) else (spec_l1Cur_order.l1 k x5 x7 x8 x9 (wrap64 (x12 + 1)) x1000 x1001 x1002 x291000 x291001)
end
def spec_l1Cur_order.f (k : Nat) (s0_0 : List Int) (s0_1 : Int) (s0_2 : Int) (a1 : Int) : Option (Int × List Int × Int × Int) := (spec_l1Cur_pick.f s0_0 s0_1 s0_2 (wrap64 (a1 + 1))).bind fun bt284 => (if 0 ≤ bt284.1 then (if (bt284.1 : Int).toNat ≤ 35184372088832 then ((spec_l1Cur_pick.f s0_0 bt284.2.1 bt284.2.2 3).bind fun bt291 => (spec_l1Cur_order.l0 k bt284.1 bt291.1 ([] : List Int) ([] : List Int) 0 s0_0 bt291.2.1 bt291.2.2 bt284.1 (List.replicate (bt284.1 : Int).toNat 0))) else (none)) else (none))
set_option maxRecDepth 100000 in
set_option maxHeartbeats 20000000 in
theorem spec_l1Cur_order.ac (k : Nat) (s0_0 : List Int) (s0_1 : Int) (s0_2 : Int) (a1 : Int) (r1 : Int) (r2 : List Int) (r3 : Int) (r4 : Int) (h : spec_l1Cur_order.f k s0_0 s0_1 s0_2 a1 = some (r1, r2, r3, r4)) :
  ACalls Tryd.prog 158 [.ptr 0 0, .lit (.int .i64 a1)] [.bx 106 [.row 1 s0_0.length false (ints .u8 s0_0), .lit (.int .i64 s0_1), .lit (.int .u64 s0_2)]] (fun v H' => v = .agg [.lit (.int .i64 r1), .own 1 r2.length] ∧ H' = [.bx 106 [.row 1 s0_0.length false (ints .u8 s0_0), .lit (.int .i64 r3), .lit (.int .u64 r4)], .sl 3 1 r2.length false (ints .i64 r2)]) := by
 refine ACalls.ofV Tryd.func158 rfl (by exact Nat.le_of_ble_eq_true rfl) ?_
 simp only [Tryd.ntmps158, env0, spec_l1Cur_order.f] at h ⊢
 refine AWp.seq ?_
 refine AWp.region ?_
 refine L.M (M.al Y26) ?_
 refine AList.nil ?_
 refine AWp.seq ?_
 refine AWp.region ?_
 refine L.Y Y.mv ?_
 refine L.Y Y.mv ?_
 refine L.Y Y.bin ?_
 replace h := Option.bind_eq_some_iff.1 h
 obtain ⟨⟨t284, t285, t286⟩, hc1, h⟩ := h
 dsimp only at h
 repeat (first | (rw [iN] at h; obtain ⟨_, h⟩ := h) | (rw [iP] at h; obtain ⟨_, h⟩ := h) | (simp only [bS] at h))
 refine L.C (C.callE (l := false) [0] Tryd.func94 (spec_l1Cur_pick.ac _ _ _ _ _ _ _ hc1) (H.c .nil) ?_)
 refine L.Y Y.asg ?_
 refine AList.nil ?_
 refine AWp.seq ?_
 refine W.kp [0, 1, 4, 5] ?_
 refine AWp.region ?_
 refine L.Y Y.mv ?_
 refine L.Y Y.mv ?_
 refine L.M (M.mk Tryd.underlying22 Y3) ?_
 refine L.Y (Y.bd Tryd.underlying26 Y26 P26) ?_
 refine L.M (M.al Y26) ?_
 refine L.S (S.stb Y26) ?_
 refine AList.nil ?_
 refine AWp.seq ?_
 refine W.kp [0, 1, 4, 5, 6] ?_
 refine AWp.region ?_
 refine L.Y Y.mv ?_
 replace h := Option.bind_eq_some_iff.1 h
 obtain ⟨⟨t291, t292, t293⟩, hc2, h⟩ := h
 dsimp only at h
 refine L.C (C.callE (l := false) [0] Tryd.func94 (spec_l1Cur_pick.ac _ _ _ _ _ _ _ hc2) (H.c .nil) ?_)
 refine L.Y Y.asg ?_
 refine AList.nil ?_
 refine AWp.seq ?_
 refine AWp.region ?_
 refine L.Y Y.asg ?_
 refine L.Y Y.asg ?_
 refine AList.nil ?_
 refine AWp.seq ?_
 refine AWp.seq ?_
 refine AWp.region ?_
 refine L.Y Y.asg ?_
 refine AList.nil ?_
 refine AWp.block ?_
 refine AWp.loopI (fun kk e H => kk ≤ k ∧ ∃ (x5 : Int) (x7 : Int) (x8 : List Int) (x9 : List Int) (x10 : Int) (x1001 : Int) (x1002 : Int) (x284000 : Int) (x291000 : Int) (x291001 : List Int), e = [(0, .ptr 0 0), (4, .ptr 1 0), (5, .lit (.int .i64 x5)), (6, .ptr 2 0), (7, .lit (.int .i64 x7)), (8, .own 3 x8.length), (9, .own 4 x9.length), (10, .lit (.int .i64 x10))] ∧ H = [.bx 106 [.row 1 s0_0.length false (ints .u8 s0_0), .lit (.int .i64 x1001), .lit (.int .u64 x1002)], .bx 26 [.lit (.int .i64 x284000), .lit (.slice none 0 0)], .bx 26 [.lit (.int .i64 x291000), .own 5 x291001.length], .sl 3 1 x8.length false (ints .i64 x8), .sl 3 1 x9.length false (ints .i64 x9), .sl 3 1 x291001.length true (ints .i64 x291001)] ∧ spec_l1Cur_order.l0 kk x5 x7 x8 x9 x10 s0_0 x1001 x1002 x291000 x291001 = some (r1, r2, r3, r4)) (k := k)
  ⟨_, _, ⟨Nat.le_refl _, _, _, _, _, _, _, _, _, _, _, rfl, rfl, h⟩, IsPart.at [(3, 1), (3, 1)] [0, 1, 3, 4, 5, 2] base1 (H.c (H.c (H.c (H.c (H.c (H.c .nil)))))) (E.c (E.c (E.c (E.c (E.c (E.c (E.c (E.c .nil))))))))⟩ ?_
 clear h
 rintro k3 e H ⟨hk4, x5, x7, x8, x9, x10, x1001, x1002, x284000, x291000, x291001, rfl, rfl, h⟩
 cases k3 with
 | zero => exact absurd h (by simp [spec_l1Cur_order.l0])
 | succ k3 =>
 simp only [spec_l1Cur_order.l0] at h
 refine AWp.seq ?_
 refine AWp.seq ?_
 refine AWp.region ?_
 refine L.Y Y.mv ?_
 refine L.Y Y.mv ?_
 refine L.Y Y.bin ?_
 refine AList.nil ?_
 refine W.cond (fun hb => ?_) (fun hb => ?_)
 ·
  have hb5 := hb
  try simp only [hS, hE, ne_eq] at hb
  first | rw [if_pos hb5] at h | rw [if_neg (Bool.eq_false_iff.1 hb5)] at h | rw [if_pos hb] at h | rw [if_neg hb] at h | (simp only [hb, hT, reduceIte] at h) | skip
  refine AWp.skip ?_
  refine AWp.seq ?_
  refine AWp.block ?_
  refine AWp.seq ?_
  refine AWp.region ?_
  refine L.Y Y.mv ?_
  replace h := Option.bind_eq_some_iff.1 h
  obtain ⟨⟨t294, t295, t296⟩, hc6, h⟩ := h
  dsimp only at h
  repeat (first | (rw [iN] at h; obtain ⟨_, h⟩ := h) | (rw [iP] at h; obtain ⟨_, h⟩ := h) | (simp only [bS] at h))
  refine L.C (C.callE (l := false) [0] Tryd.func94 (spec_l1Cur_pick.ac _ _ _ _ _ _ _ hc6) (H.c .nil) ?_)
  refine L.Y Y.asg ?_
  refine AList.nil ?_
  refine AWp.seq ?_
  refine W.kp [0, 4, 5, 6, 7, 8, 9, 10, 11, 28] ?_
  refine AWp.region ?_
  refine L.Y Y.mv ?_
  refine L.Y Y.mv ?_
  refine L.M (M.bs Tryd.underlying22 Y3) ?_
  refine L.S (S.ap (nn' := false) Tryd.underlying22 Y3) ?_
  refine L.Y Y.asg ?_
  refine AList.nil ?_
  refine AWp.seq ?_
  refine W.kp [0, 4, 5, 6, 7, 8, 9, 10, 11, 28] ?_
  refine AWp.region ?_
  refine L.Y Y.mv ?_
  refine L.Y Y.bin ?_
  refine AList.nil ?_
  refine W.cond (fun hb => ?_) (fun hb => ?_)
  ·
   have hb7 := hb
   try simp only [hS, hE, ne_eq] at hb
   first | rw [if_pos hb7] at h | rw [if_neg (Bool.eq_false_iff.1 hb7)] at h | rw [if_pos hb] at h | rw [if_neg hb] at h | (simp only [hb, hT, reduceIte] at h) | skip
   refine AWp.region ?_
   refine L.Y Y.mv ?_
   refine L.Y Y.mv ?_
   refine L.Y Y.mv ?_
   replace h := Option.bind_eq_some_iff.1 h
   obtain ⟨⟨t300, t301, t302⟩, hc8, h⟩ := h
   dsimp only at h
   repeat (first | (rw [iN] at h; obtain ⟨_, h⟩ := h) | (rw [iP] at h; obtain ⟨_, h⟩ := h) | (simp only [bS] at h))
   refine L.C (C.callE (l := false) [0] Tryd.func94 (spec_l1Cur_pick.ac _ _ _ _ _ _ _ hc8) (H.c .nil) ?_)
   refine L.Y Y.bin ?_
   refine L.M (M.bs Tryd.underlying22 Y3) ?_
   refine L.S (S.ap (nn' := false) Tryd.underlying22 Y3) ?_
   refine L.Y Y.asg ?_
   refine AList.nil ?_
   refine W.kp [0, 4, 5, 6, 7, 8, 9, 10, 11, 28, 38] ?_
   refine AWp.region ?_
   refine L.Y Y.mv ?_
   refine L.Y Y.bin ?_
   refine L.Y Y.asg ?_
   refine AList.nil ?_
   exact ⟨k3, by omega, _, _, ⟨by omega, _, _, _, _, _, _, _, _, _, _, rfl, rfl, h⟩, IsPart.at [] [0, 1, 2, 3, 4, 5] base1 (H.c (H.c (H.c (H.c (H.c (H.c .nil)))))) (E.c (E.c (E.c (E.c (E.c (E.c (E.c (E.c .nil))))))))⟩
  ·
   have hb7 := hb
   try simp only [hS, hE, ne_eq] at hb
   first | rw [if_pos hb7] at h | rw [if_neg (Bool.eq_false_iff.1 hb7)] at h | rw [if_pos hb] at h | rw [if_neg hb] at h | (simp only [hb, hT, reduceIte] at h) | skip
   repeat (first | (rw [iN] at h; obtain ⟨_, h⟩ := h) | (rw [iP] at h; obtain ⟨_, h⟩ := h) | (simp only [bS] at h))
   refine AWp.region ?_
   refine L.Y Y.mv ?_
   refine L.Y Y.mv ?_
   refine L.Y Y.bin ?_
   refine L.M (M.bs Tryd.underlying22 Y3) ?_
   refine L.S (S.ap (nn' := false) Tryd.underlying22 Y3) ?_
   refine L.Y Y.asg ?_
   refine AList.nil ?_
   refine W.kp [0, 4, 5, 6, 7, 8, 9, 10, 11, 28, 38] ?_
   refine AWp.region ?_
   refine L.Y Y.mv ?_
   refine L.Y Y.bin ?_
   refine L.Y Y.asg ?_
   refine AList.nil ?_
   exact ⟨k3, by omega, _, _, ⟨by omega, _, _, _, _, _, _, _, _, _, _, rfl, rfl, h⟩, IsPart.at [] [0, 1, 2, 3, 4, 5] base1 (H.c (H.c (H.c (H.c (H.c (H.c .nil)))))) (E.c (E.c (E.c (E.c (E.c (E.c (E.c (E.c .nil))))))))⟩
 ·
  have hb5 := hb
  try simp only [hS, hE, ne_eq] at hb
  first | rw [if_pos hb5] at h | rw [if_neg (Bool.eq_false_iff.1 hb5)] at h | rw [if_pos hb] at h | rw [if_neg hb] at h | (simp only [hb, hT, reduceIte] at h) | skip
  refine AWp.exit ?_
  refine AWp.seq ?_
  refine AWp.seq ?_
  refine AWp.region ?_
  refine L.Y Y.asg ?_
  refine AList.nil ?_
  refine AWp.block ?_
  refine AWp.loopI (fun kk e H => kk ≤ k3 ∧ ∃ (x5 : Int) (x7 : Int) (x8 : List Int) (x9 : List Int) (x12 : Int) (x1001 : Int) (x1002 : Int) (x284000 : Int) (x291000 : Int) (x291001 : List Int), e = [(0, .ptr 0 0), (4, .ptr 1 0), (5, .lit (.int .i64 x5)), (6, .ptr 2 0), (7, .lit (.int .i64 x7)), (8, .own 3 x8.length), (9, .own 4 x9.length), (12, .lit (.int .i64 x12))] ∧ H = [.bx 106 [.row 1 s0_0.length false (ints .u8 s0_0), .lit (.int .i64 x1001), .lit (.int .u64 x1002)], .bx 26 [.lit (.int .i64 x284000), .lit (.slice none 0 0)], .bx 26 [.lit (.int .i64 x291000), .own 5 x291001.length], .sl 3 1 x8.length false (ints .i64 x8), .sl 3 1 x9.length false (ints .i64 x9), .sl 3 1 x291001.length true (ints .i64 x291001)] ∧ spec_l1Cur_order.l1 kk x5 x7 x8 x9 x12 s0_0 x1001 x1002 x291000 x291001 = some (r1, r2, r3, r4)) (k := k3)
   ⟨_, _, ⟨Nat.le_refl _, _, _, _, _, _, _, _, _, _, _, rfl, rfl, h⟩, IsPart.at [] [0, 1, 2, 3, 4, 5] base1 (H.c (H.c (H.c (H.c (H.c (H.c .nil)))))) (E.c (E.c (E.c (E.c (E.c (E.c (E.c (E.c .nil))))))))⟩ ?_
  clear h
  rintro k9 e H ⟨hk10, x5, x7, x8, x9, x12, x1001, x1002, x284000, x291000, x291001, rfl, rfl, h⟩
  cases k9 with
  | zero => exact absurd h (by simp [spec_l1Cur_order.l1])
  | succ k9 =>
  simp only [spec_l1Cur_order.l1] at h
  refine AWp.seq ?_
  refine AWp.seq ?_
  refine AWp.region ?_
  refine L.Y Y.mv ?_
  refine L.Y Y.mv ?_
  refine L.Y Y.bin ?_
  refine AList.nil ?_
  refine W.cond (fun hb => ?_) (fun hb => ?_)
  ·
   have hb11 := hb
   try simp only [hS, hE, ne_eq] at hb
   first | rw [if_pos hb11] at h | rw [if_neg (Bool.eq_false_iff.1 hb11)] at h | rw [if_pos hb] at h | rw [if_neg hb] at h | (simp only [hb, hT, reduceIte] at h) | skip
   refine AWp.skip ?_
   refine AWp.seq ?_
   refine AWp.block ?_
   refine AWp.seq ?_
   refine AWp.region ?_
   refine L.Y Y.asg ?_
   refine AList.nil ?_
   refine AWp.block ?_
   refine AWp.loopI (fun kk e H => kk ≤ k9 ∧ ∃ (x5 : Int) (x7 : Int) (x8 : List Int) (x9 : List Int) (x12 : Int) (x13 : Int) (x1001 : Int) (x1002 : Int) (x284000 : Int) (x291000 : Int) (x291001 : List Int), e = [(0, .ptr 0 0), (4, .ptr 1 0), (5, .lit (.int .i64 x5)), (6, .ptr 2 0), (7, .lit (.int .i64 x7)), (8, .own 3 x8.length), (9, .own 4 x9.length), (12, .lit (.int .i64 x12)), (13, .lit (.int .i64 x13))] ∧ H = [.bx 106 [.row 1 s0_0.length false (ints .u8 s0_0), .lit (.int .i64 x1001), .lit (.int .u64 x1002)], .bx 26 [.lit (.int .i64 x284000), .lit (.slice none 0 0)], .bx 26 [.lit (.int .i64 x291000), .own 5 x291001.length], .sl 3 1 x8.length false (ints .i64 x8), .sl 3 1 x9.length false (ints .i64 x9), .sl 3 1 x291001.length true (ints .i64 x291001)] ∧ spec_l1Cur_order.l2 kk x5 x7 x8 x9 x12 x13 s0_0 x1001 x1002 x291000 x291001 = some (r1, r2, r3, r4)) (k := k9)
    ⟨_, _, ⟨Nat.le_refl _, _, _, _, _, _, _, _, _, _, _, _, rfl, rfl, h⟩, IsPart.at [] [0, 1, 2, 3, 4, 5] base1 (H.c (H.c (H.c (H.c (H.c (H.c .nil)))))) (E.c (E.c (E.c (E.c (E.c (E.c (E.c (E.c (E.c .nil)))))))))⟩ ?_
   clear h
   rintro k12 e H ⟨hk13, x5, x7, x8, x9, x12, x13, x1001, x1002, x284000, x291000, x291001, rfl, rfl, h⟩
   cases k12 with
   | zero => exact absurd h (by simp [spec_l1Cur_order.l2])
   | succ k12 =>
   simp only [spec_l1Cur_order.l2] at h
   refine AWp.seq ?_
   refine AWp.seq ?_
   refine AWp.region ?_
   refine L.Y Y.mv ?_
   refine L.Y Y.mv ?_
   refine L.Y Y.bin ?_
   refine AList.nil ?_
   refine W.cond (fun hb => ?_) (fun hb => ?_)
   ·
    have hb14 := hb
    try simp only [hS, hE, ne_eq] at hb
    first | rw [if_pos hb14] at h | rw [if_neg (Bool.eq_false_iff.1 hb14)] at h | rw [if_pos hb] at h | rw [if_neg hb] at h | (simp only [hb, hT, reduceIte] at h) | skip
    refine AWp.skip ?_
    refine AWp.seq ?_
    refine AWp.block ?_
    refine AWp.seq ?_
    refine Dt.reg [true] [] (.y 0 (.y 1 (.y 2 (.y 3 (.y 4 (.y 5 (.t 6 (.y 7 (.y 8 (.y 9 (.t 10 (.y 11 (.y 12 (.y 13 (.y 14 (.y 15 (.y 16 (.y 17 (.y 18 (.y 19 (.y 20 (.y 21 (.y 22 (.one 23 (.y 24 (.y 25 .done)))))))))))))))))))))))))) HM ?_
    refine Dt.Y rfl wantN Y.mv ?_
    refine Dt.Y rfl wantN Y.bin ?_
    refine Dt.Y rfl wantN Y.mv ?_
    refine Dt.F 63 (fun hb => ?_) (fun hb => ?_)
    ·
     have hb15 := hb
     try simp only [hS, hE, ne_eq] at hb
     first | rw [if_pos hb15] at h | rw [if_neg (Bool.eq_false_iff.1 hb15)] at h | rw [if_pos hb] at h | rw [if_neg hb] at h | (simp only [hb, hT, reduceIte] at h) | skip
     repeat (first | (rw [iN] at h; obtain ⟨_, h⟩ := h) | (rw [iP] at h; obtain ⟨_, h⟩ := h) | (simp only [bS] at h))
     refine Dt.Y rfl (wantY hb15) Y.mv ?_
     refine Dt.Y rfl (wantY hb15) Y.mv ?_
     refine Dt.Y rfl (wantY hb15) (Y.ixo Tryd.underlying22 Y3) ?_
     refine Dt.T rfl (wantY hb15) (D.ld Tryd.underlying3) ?_
     refine Dt.Y rfl (wantY hb15) Y.mv ?_
     refine Dt.Y rfl (wantY hb15) Y.mv ?_
     refine Dt.Y rfl (wantY hb15) (Y.ixo Tryd.underlying22 Y3) ?_
     refine Dt.T rfl (wantY hb15) (D.ld Tryd.underlying3) ?_
     refine Dt.Y rfl (wantY hb15) Y.bin ?_
     refine Dt.Y rfl wantN (Y.pk (c := true) hb15) ?_
     refine Dt.Y rfl wantN Y.mv ?_
     refine Dt.F 74 (fun hb => ?_) (fun hb => ?_)
     ·
      have hb16 := hb
      try simp only [hS, hE, ne_eq] at hb
      first | rw [if_pos hb16] at h | rw [if_neg (Bool.eq_false_iff.1 hb16)] at h | rw [if_pos hb] at h | rw [if_neg hb] at h | (simp only [hb, hT, reduceIte] at h) | skip
      repeat (first | (rw [iN] at h; obtain ⟨_, h⟩ := h) | (rw [iP] at h; obtain ⟨_, h⟩ := h) | (simp only [bS] at h))
      refine Dt.No rfl (wantZ hb16) ?_
      refine Dt.No rfl (wantZ hb16) ?_
      refine Dt.No rfl (wantZ hb16) ?_
      refine Dt.No rfl wantU ?_
      refine Dt.No rfl wantU ?_
      refine Dt.No rfl wantU ?_
      refine Dt.No rfl (wantZ hb16) ?_
      refine Dt.No rfl (wantZ hb16) ?_
      refine Dt.No rfl wantU ?_
      refine Dt.Po rfl wantU ?_
      refine Dt.No rfl (wantZ hb16) ?_
      refine Dt.Y rfl wantN (Y.pk (c := true) hb16) ?_
      refine Dt.nil ?_
      refine W.cond (fun hb => ?_) (fun hb => ?_)
      rotate_left
      ·
       first | exact Bool.false_ne_true ((Eq.symm (by assumption)).trans hb) | exact Bool.false_ne_true (hb.symm.trans (by assumption)) | exact DD hb
      have hb17 := hb
      refine W.kp [0, 4, 5, 6, 7, 8, 9, 12, 13, 58, 86] ?_
      refine Dt.reg [] [9] (.y 0 (.t 1 (.y 2 (.y 3 (.t 4 (.y 5 (.y 6 (.y 7 (.y 8 (.last 9 .done)))))))))) HM ?_
      refine Dt.Y rfl wantN (Y.fa (off := 1) Tryd.underlying26 Y22) ?_
      refine Dt.T rfl wantN (D.ld Tryd.underlying22) ?_
      refine Dt.Y rfl wantN Y.mv ?_
      refine Dt.Y rfl wantN (Y.ixo Tryd.underlying22 Y3) ?_
      refine Dt.T rfl wantN (D.ld Tryd.underlying3) ?_
      refine Dt.Y rfl wantN Y.mv ?_
      refine Dt.Y rfl wantN Y.bin ?_
      refine Dt.Y rfl wantN Y.bin ?_
      refine Dt.Y rfl wantN (Y.ixo Tryd.underlying22 Y3) ?_
      refine Dt.L rfl wantN ?_
      refine Op.S (S.sts Y3) ?_
      refine Du.nil ?_
      refine W.kp [0, 4, 5, 6, 7, 8, 9, 12, 13, 58, 86] ?_
      refine AWp.region ?_
      refine L.Y Y.mv ?_
      refine L.Y Y.bin ?_
      refine L.Y Y.asg ?_
      refine AList.nil ?_
      exact ⟨k12, by omega, _, _, ⟨by omega, _, _, _, _, _, _, _, _, _, _, _, rfl, rfl, h⟩, IsPart.at [] [0, 1, 2, 3, 4, 5] base1 (H.c (H.c (H.c (H.c (H.c (H.c .nil)))))) (E.c (E.c (E.c (E.c (E.c (E.c (E.c (E.c (E.c .nil)))))))))⟩
     ·
      have hb16 := hb
      try simp only [hS, hE, ne_eq] at hb
      first | rw [if_pos hb16] at h | rw [if_neg (Bool.eq_false_iff.1 hb16)] at h | rw [if_pos hb] at h | rw [if_neg hb] at h | (simp only [hb, hT, reduceIte] at h) | skip
      refine Dt.Y rfl (wantY hb16) Y.mv ?_
      refine Dt.Y rfl (wantY hb16) Y.bin ?_
      refine Dt.Y rfl (wantY hb16) Y.mv ?_
      refine Dt.F 77 (fun hb => ?_) (fun hb => ?_)
      ·
       have hb18 := hb
       try simp only [hS, hE, ne_eq] at hb
       first | rw [if_pos hb18] at h | rw [if_neg (Bool.eq_false_iff.1 hb18)] at h | rw [if_pos hb] at h | rw [if_neg hb] at h | (simp only [hb, hT, reduceIte] at h) | skip
       refine Dt.Y rfl (wantY hb18) Y.mv ?_
       refine Dt.Y rfl (wantY hb18) Y.mv ?_
       refine Dt.Y rfl (wantY hb18) Y.bin ?_
       refine Dt.Y rfl (wantY hb16) (Y.pk (c := true) hb18) ?_
       refine Dt.Y rfl (wantY hb16) Y.mv ?_
       refine Dt.F 82 (fun hb => ?_) (fun hb => ?_)
       ·
        have hb19 := hb
        try simp only [hS, hE, ne_eq] at hb
        first | rw [if_pos hb19] at h | rw [if_neg (Bool.eq_false_iff.1 hb19)] at h | rw [if_pos hb] at h | rw [if_neg hb] at h | (simp only [hb, hT, reduceIte] at h) | skip
        refine Dt.Y rfl (wantY hb19) Y.mv ?_
        refine Dt.O (g' := true) rfl (wantY hb19) ?_
        replace h := Option.bind_eq_some_iff.1 h
        obtain ⟨⟨t319, t320, t321⟩, hc20, h⟩ := h
        dsimp only at h
        refine Ox.C false [0] Tryd.func89 (spec_l1Cur_one.ac _ _ _ _ _ _ _ hc20) (H.c .nil) ?_
        refine Dt.Y rfl (wantY hb16) (Y.pk (c := true) hb19) ?_
        refine Dt.Y rfl wantN (Y.pk (c := false) hb16) ?_
        refine Dt.nil ?_
        refine W.cond (fun hb => ?_) (fun hb => ?_)
        ·
         have hb21 := hb
         try simp only [hS, hE, ne_eq] at hb
         first | rw [if_pos hb21] at h | rw [if_neg (Bool.eq_false_iff.1 hb21)] at h | rw [if_pos hb] at h | rw [if_neg hb] at h | (simp only [hb, hT, reduceIte] at h) | skip
         repeat (first | (rw [iN] at h; obtain ⟨_, h⟩ := h) | (rw [iP] at h; obtain ⟨_, h⟩ := h) | (simp only [bS] at h))
         refine W.kp [0, 4, 5, 6, 7, 8, 9, 12, 13, 58, 86] ?_
         refine Dt.reg [] [9] (.y 0 (.t 1 (.y 2 (.y 3 (.t 4 (.y 5 (.y 6 (.y 7 (.y 8 (.last 9 .done)))))))))) HM ?_
         refine Dt.Y rfl wantN (Y.fa (off := 1) Tryd.underlying26 Y22) ?_
         refine Dt.T rfl wantN (D.ld Tryd.underlying22) ?_
         refine Dt.Y rfl wantN Y.mv ?_
         refine Dt.Y rfl wantN (Y.ixo Tryd.underlying22 Y3) ?_
         refine Dt.T rfl wantN (D.ld Tryd.underlying3) ?_
         refine Dt.Y rfl wantN Y.mv ?_
         refine Dt.Y rfl wantN Y.bin ?_
         refine Dt.Y rfl wantN Y.bin ?_
         refine Dt.Y rfl wantN (Y.ixo Tryd.underlying22 Y3) ?_
         refine Dt.L rfl wantN ?_
         refine Op.S (S.sts Y3) ?_
         refine Du.nil ?_
         refine W.kp [0, 4, 5, 6, 7, 8, 9, 12, 13, 58, 86] ?_
         refine AWp.region ?_
         refine L.Y Y.mv ?_
         refine L.Y Y.bin ?_
         refine L.Y Y.asg ?_
         refine AList.nil ?_
         exact ⟨k12, by omega, _, _, ⟨by omega, _, _, _, _, _, _, _, _, _, _, _, rfl, rfl, h⟩, IsPart.at [] [0, 1, 2, 3, 4, 5] base1 (H.c (H.c (H.c (H.c (H.c (H.c .nil)))))) (E.c (E.c (E.c (E.c (E.c (E.c (E.c (E.c (E.c .nil)))))))))⟩
        ·
         have hb21 := hb
         try simp only [hS, hE, ne_eq] at hb
         first | rw [if_pos hb21] at h | rw [if_neg (Bool.eq_false_iff.1 hb21)] at h | rw [if_pos hb] at h | rw [if_neg hb] at h | (simp only [hb, hT, reduceIte] at h) | skip
         refine AWp.skip ?_
         refine W.kp [0, 4, 5, 6, 7, 8, 9, 12, 13, 58, 86] ?_
         refine AWp.region ?_
         refine L.Y Y.mv ?_
         refine L.Y Y.bin ?_
         refine L.Y Y.asg ?_
         refine AList.nil ?_
         exact ⟨k12, by omega, _, _, ⟨by omega, _, _, _, _, _, _, _, _, _, _, _, rfl, rfl, h⟩, IsPart.at [] [0, 1, 2, 3, 4, 5] base1 (H.c (H.c (H.c (H.c (H.c (H.c .nil)))))) (E.c (E.c (E.c (E.c (E.c (E.c (E.c (E.c (E.c .nil)))))))))⟩
       ·
        have hb19 := hb
        try simp only [hS, hE, ne_eq] at hb
        first | rw [if_pos hb19] at h | rw [if_neg (Bool.eq_false_iff.1 hb19)] at h | rw [if_pos hb] at h | rw [if_neg hb] at h | (simp only [hb, hT, reduceIte] at h) | skip
        refine Dt.No rfl (wantZ hb19) ?_
        refine Dt.Po rfl (wantZ hb19) ?_
        refine Dt.Y rfl (wantY hb16) (Y.pk (c := false) hb19) ?_
        refine Dt.Y rfl wantN (Y.pk (c := false) hb16) ?_
        refine Dt.nil ?_
        refine W.cond (fun hb => ?_) (fun hb => ?_)
        ·
         first | exact Bool.false_ne_true ((Eq.symm (by assumption)).trans hb) | exact Bool.false_ne_true (hb.symm.trans (by assumption)) | exact DD hb
        have hb22 := hb
        refine AWp.skip ?_
        refine W.kp [0, 4, 5, 6, 7, 8, 9, 12, 13, 58, 86] ?_
        refine AWp.region ?_
        refine L.Y Y.mv ?_
        refine L.Y Y.bin ?_
        refine L.Y Y.asg ?_
        refine AList.nil ?_
        exact ⟨k12, by omega, _, _, ⟨by omega, _, _, _, _, _, _, _, _, _, _, _, rfl, rfl, h⟩, IsPart.at [] [0, 1, 2, 3, 4, 5] base1 (H.c (H.c (H.c (H.c (H.c (H.c .nil)))))) (E.c (E.c (E.c (E.c (E.c (E.c (E.c (E.c (E.c .nil)))))))))⟩
      ·
       have hb18 := hb
       try simp only [hS, hE, ne_eq] at hb
       first | rw [if_pos hb18] at h | rw [if_neg (Bool.eq_false_iff.1 hb18)] at h | rw [if_pos hb] at h | rw [if_neg hb] at h | (simp only [hb, hT, reduceIte] at h) | skip
       refine Dt.No rfl (wantZ hb18) ?_
       refine Dt.No rfl (wantZ hb18) ?_
       refine Dt.No rfl (wantZ hb18) ?_
       refine Dt.Y rfl (wantY hb16) (Y.pk (c := false) hb18) ?_
       refine Dt.Y rfl (wantY hb16) Y.mv ?_
       refine Dt.F 82 (fun hb => ?_) (fun hb => ?_)
       ·
        first | exact Bool.false_ne_true ((Eq.symm (by assumption)).trans hb) | exact Bool.false_ne_true (hb.symm.trans (by assumption)) | exact DD hb
       have hb23 := hb
       refine Dt.No rfl (wantZ hb23) ?_
       refine Dt.Po rfl (wantZ hb23) ?_
       refine Dt.Y rfl (wantY hb16) (Y.pk (c := false) hb23) ?_
       refine Dt.Y rfl wantN (Y.pk (c := false) hb16) ?_
       refine Dt.nil ?_
       refine W.cond (fun hb => ?_) (fun hb => ?_)
       ·
        first | exact Bool.false_ne_true ((Eq.symm (by assumption)).trans hb) | exact Bool.false_ne_true (hb.symm.trans (by assumption)) | exact DD hb
       have hb24 := hb
       refine AWp.skip ?_
       refine W.kp [0, 4, 5, 6, 7, 8, 9, 12, 13, 58, 86] ?_
       refine AWp.region ?_
       refine L.Y Y.mv ?_
       refine L.Y Y.bin ?_
       refine L.Y Y.asg ?_
       refine AList.nil ?_
       exact ⟨k12, by omega, _, _, ⟨by omega, _, _, _, _, _, _, _, _, _, _, _, rfl, rfl, h⟩, IsPart.at [] [0, 1, 2, 3, 4, 5] base1 (H.c (H.c (H.c (H.c (H.c (H.c .nil)))))) (E.c (E.c (E.c (E.c (E.c (E.c (E.c (E.c (E.c .nil)))))))))⟩
    ·
     have hb15 := hb
     try simp only [hS, hE, ne_eq] at hb
     first | rw [if_pos hb15] at h | rw [if_neg (Bool.eq_false_iff.1 hb15)] at h | rw [if_pos hb] at h | rw [if_neg hb] at h | (simp only [hb, hT, reduceIte] at h) | skip
     refine Dt.No rfl (wantZ hb15) ?_
     refine Dt.No rfl (wantZ hb15) ?_
     refine Dt.No rfl (wantZ hb15) ?_
     refine Dt.Nt rfl (wantZ hb15) ?_
     refine Dt.No rfl (wantZ hb15) ?_
     refine Dt.No rfl (wantZ hb15) ?_
     refine Dt.No rfl (wantZ hb15) ?_
     refine Dt.Nt rfl (wantZ hb15) ?_
     refine Dt.No rfl (wantZ hb15) ?_
     refine Dt.Y rfl wantN (Y.pk (c := false) hb15) ?_
     refine Dt.Y rfl wantN Y.mv ?_
     refine Dt.F 74 (fun hb => ?_) (fun hb => ?_)
     ·
      first | exact Bool.false_ne_true ((Eq.symm (by assumption)).trans hb) | exact Bool.false_ne_true (hb.symm.trans (by assumption)) | exact DD hb
     have hb25 := hb
     refine Dt.Y rfl (wantY hb25) Y.mv ?_
     refine Dt.Y rfl (wantY hb25) Y.bin ?_
     refine Dt.Y rfl (wantY hb25) Y.mv ?_
     refine Dt.F 77 (fun hb => ?_) (fun hb => ?_)
     ·
      have hb26 := hb
      try simp only [hS, hE, ne_eq] at hb
      first | rw [if_pos hb26] at h | rw [if_neg (Bool.eq_false_iff.1 hb26)] at h | rw [if_pos hb] at h | rw [if_neg hb] at h | (simp only [hb, hT, reduceIte] at h) | skip
      refine Dt.Y rfl (wantY hb26) Y.mv ?_
      refine Dt.Y rfl (wantY hb26) Y.mv ?_
      refine Dt.Y rfl (wantY hb26) Y.bin ?_
      refine Dt.Y rfl (wantY hb25) (Y.pk (c := true) hb26) ?_
      refine Dt.Y rfl (wantY hb25) Y.mv ?_
      refine Dt.F 82 (fun hb => ?_) (fun hb => ?_)
      ·
       have hb27 := hb
       try simp only [hS, hE, ne_eq] at hb
       first | rw [if_pos hb27] at h | rw [if_neg (Bool.eq_false_iff.1 hb27)] at h | rw [if_pos hb] at h | rw [if_neg hb] at h | (simp only [hb, hT, reduceIte] at h) | skip
       refine Dt.Y rfl (wantY hb27) Y.mv ?_
       refine Dt.O (g' := true) rfl (wantY hb27) ?_
       replace h := Option.bind_eq_some_iff.1 h
       obtain ⟨⟨t324, t325, t326⟩, hc28, h⟩ := h
       dsimp only at h
       refine Ox.C false [0] Tryd.func89 (spec_l1Cur_one.ac _ _ _ _ _ _ _ hc28) (H.c .nil) ?_
       refine Dt.Y rfl (wantY hb25) (Y.pk (c := true) hb27) ?_
       refine Dt.Y rfl wantN (Y.pk (c := false) hb25) ?_
       refine Dt.nil ?_
       refine W.cond (fun hb => ?_) (fun hb => ?_)
       ·
        have hb29 := hb
        try simp only [hS, hE, ne_eq] at hb
        first | rw [if_pos hb29] at h | rw [if_neg (Bool.eq_false_iff.1 hb29)] at h | rw [if_pos hb] at h | rw [if_neg hb] at h | (simp only [hb, hT, reduceIte] at h) | skip
        repeat (first | (rw [iN] at h; obtain ⟨_, h⟩ := h) | (rw [iP] at h; obtain ⟨_, h⟩ := h) | (simp only [bS] at h))
        refine W.kp [0, 4, 5, 6, 7, 8, 9, 12, 13, 58, 86] ?_
        refine Dt.reg [] [9] (.y 0 (.t 1 (.y 2 (.y 3 (.t 4 (.y 5 (.y 6 (.y 7 (.y 8 (.last 9 .done)))))))))) HM ?_
        refine Dt.Y rfl wantN (Y.fa (off := 1) Tryd.underlying26 Y22) ?_
        refine Dt.T rfl wantN (D.ld Tryd.underlying22) ?_
        refine Dt.Y rfl wantN Y.mv ?_
        refine Dt.Y rfl wantN (Y.ixo Tryd.underlying22 Y3) ?_
        refine Dt.T rfl wantN (D.ld Tryd.underlying3) ?_
        refine Dt.Y rfl wantN Y.mv ?_
        refine Dt.Y rfl wantN Y.bin ?_
        refine Dt.Y rfl wantN Y.bin ?_
        refine Dt.Y rfl wantN (Y.ixo Tryd.underlying22 Y3) ?_
        refine Dt.L rfl wantN ?_
        refine Op.S (S.sts Y3) ?_
        refine Du.nil ?_
        refine W.kp [0, 4, 5, 6, 7, 8, 9, 12, 13, 58, 86] ?_
        refine AWp.region ?_
        refine L.Y Y.mv ?_
        refine L.Y Y.bin ?_
        refine L.Y Y.asg ?_
        refine AList.nil ?_
        exact ⟨k12, by omega, _, _, ⟨by omega, _, _, _, _, _, _, _, _, _, _, _, rfl, rfl, h⟩, IsPart.at [] [0, 1, 2, 3, 4, 5] base1 (H.c (H.c (H.c (H.c (H.c (H.c .nil)))))) (E.c (E.c (E.c (E.c (E.c (E.c (E.c (E.c (E.c .nil)))))))))⟩
       ·
        have hb29 := hb
        try simp only [hS, hE, ne_eq] at hb
        first | rw [if_pos hb29] at h | rw [if_neg (Bool.eq_false_iff.1 hb29)] at h | rw [if_pos hb] at h | rw [if_neg hb] at h | (simp only [hb, hT, reduceIte] at h) | skip
        refine AWp.skip ?_
        refine W.kp [0, 4, 5, 6, 7, 8, 9, 12, 13, 58, 86] ?_
        refine AWp.region ?_
        refine L.Y Y.mv ?_
        refine L.Y Y.bin ?_
        refine L.Y Y.asg ?_
        refine AList.nil ?_
        exact ⟨k12, by omega, _, _, ⟨by omega, _, _, _, _, _, _, _, _, _, _, _, rfl, rfl, h⟩, IsPart.at [] [0, 1, 2, 3, 4, 5] base1 (H.c (H.c (H.c (H.c (H.c (H.c .nil)))))) (E.c (E.c (E.c (E.c (E.c (E.c (E.c (E.c (E.c .nil)))))))))⟩
      ·
       have hb27 := hb
       try simp only [hS, hE, ne_eq] at hb
       first | rw [if_pos hb27] at h | rw [if_neg (Bool.eq_false_iff.1 hb27)] at h | rw [if_pos hb] at h | rw [if_neg hb] at h | (simp only [hb, hT, reduceIte] at h) | skip
       refine Dt.No rfl (wantZ hb27) ?_
       refine Dt.Po rfl (wantZ hb27) ?_
       refine Dt.Y rfl (wantY hb25) (Y.pk (c := false) hb27) ?_
       refine Dt.Y rfl wantN (Y.pk (c := false) hb25) ?_
       refine Dt.nil ?_
       refine W.cond (fun hb => ?_) (fun hb => ?_)
       ·
        first | exact Bool.false_ne_true ((Eq.symm (by assumption)).trans hb) | exact Bool.false_ne_true (hb.symm.trans (by assumption)) | exact DD hb
       have hb30 := hb
       refine AWp.skip ?_
       refine W.kp [0, 4, 5, 6, 7, 8, 9, 12, 13, 58, 86] ?_
       refine AWp.region ?_
       refine L.Y Y.mv ?_
       refine L.Y Y.bin ?_
       refine L.Y Y.asg ?_
       refine AList.nil ?_
       exact ⟨k12, by omega, _, _, ⟨by omega, _, _, _, _, _, _, _, _, _, _, _, rfl, rfl, h⟩, IsPart.at [] [0, 1, 2, 3, 4, 5] base1 (H.c (H.c (H.c (H.c (H.c (H.c .nil)))))) (E.c (E.c (E.c (E.c (E.c (E.c (E.c (E.c (E.c .nil)))))))))⟩
     ·
      have hb26 := hb
      try simp only [hS, hE, ne_eq] at hb
      first | rw [if_pos hb26] at h | rw [if_neg (Bool.eq_false_iff.1 hb26)] at h | rw [if_pos hb] at h | rw [if_neg hb] at h | (simp only [hb, hT, reduceIte] at h) | skip
      refine Dt.No rfl (wantZ hb26) ?_
      refine Dt.No rfl (wantZ hb26) ?_
      refine Dt.No rfl (wantZ hb26) ?_
      refine Dt.Y rfl (wantY hb25) (Y.pk (c := false) hb26) ?_
      refine Dt.Y rfl (wantY hb25) Y.mv ?_
      refine Dt.F 82 (fun hb => ?_) (fun hb => ?_)
      ·
       first | exact Bool.false_ne_true ((Eq.symm (by assumption)).trans hb) | exact Bool.false_ne_true (hb.symm.trans (by assumption)) | exact DD hb
      have hb31 := hb
      refine Dt.No rfl (wantZ hb31) ?_
      refine Dt.Po rfl (wantZ hb31) ?_
      refine Dt.Y rfl (wantY hb25) (Y.pk (c := false) hb31) ?_
      refine Dt.Y rfl wantN (Y.pk (c := false) hb25) ?_
      refine Dt.nil ?_
      refine W.cond (fun hb => ?_) (fun hb => ?_)
      ·
       first | exact Bool.false_ne_true ((Eq.symm (by assumption)).trans hb) | exact Bool.false_ne_true (hb.symm.trans (by assumption)) | exact DD hb
      have hb32 := hb
      refine AWp.skip ?_
      refine W.kp [0, 4, 5, 6, 7, 8, 9, 12, 13, 58, 86] ?_
      refine AWp.region ?_
      refine L.Y Y.mv ?_
      refine L.Y Y.bin ?_
      refine L.Y Y.asg ?_
      refine AList.nil ?_
      exact ⟨k12, by omega, _, _, ⟨by omega, _, _, _, _, _, _, _, _, _, _, _, rfl, rfl, h⟩, IsPart.at [] [0, 1, 2, 3, 4, 5] base1 (H.c (H.c (H.c (H.c (H.c (H.c .nil)))))) (E.c (E.c (E.c (E.c (E.c (E.c (E.c (E.c (E.c .nil)))))))))⟩
   ·
    have hb14 := hb
    try simp only [hS, hE, ne_eq] at hb
    first | rw [if_pos hb14] at h | rw [if_neg (Bool.eq_false_iff.1 hb14)] at h | rw [if_pos hb] at h | rw [if_neg hb] at h | (simp only [hb, hT, reduceIte] at h) | skip
    refine AWp.exit ?_
    refine AWp.region ?_
    refine L.Y Y.mv ?_
    refine L.Y Y.bin ?_
    refine L.Y Y.asg ?_
    refine AList.nil ?_
    exact ⟨k12, by omega, _, _, ⟨by omega, _, _, _, _, _, _, _, _, _, _, rfl, rfl, h⟩, IsPart.at [] [0, 1, 2, 3, 4, 5] base1 (H.c (H.c (H.c (H.c (H.c (H.c .nil)))))) (E.c (E.c (E.c (E.c (E.c (E.c (E.c (E.c .nil))))))))⟩
  ·
   have hb11 := hb
   try simp only [hS, hE, ne_eq] at hb
   first | rw [if_pos hb11] at h | rw [if_neg (Bool.eq_false_iff.1 hb11)] at h | rw [if_pos hb] at h | rw [if_neg hb] at h | (simp only [hb, hT, reduceIte] at h) | skip
   refine AWp.exit ?_
   refine AWp.seq ?_
   refine AWp.seq ?_
   refine AWp.region ?_
   refine L.Y Y.mv ?_
   refine L.Y Y.bin ?_
   refine AList.nil ?_
   refine W.cond (fun hb => ?_) (fun hb => ?_)
   ·
    have hb33 := hb
    try simp only [hS, hE, ne_eq] at hb
    first | rw [if_pos hb33] at h | rw [if_neg (Bool.eq_false_iff.1 hb33)] at h | rw [if_pos hb] at h | rw [if_neg hb] at h | (simp only [hb, hT, reduceIte] at h) | skip
    refine AWp.seq ?_
    refine AWp.region ?_
    refine L.S (S.ldN Tryd.underlying26 Y26) ?_
    refine L.S (S.stb Y26) ?_
    refine AList.nil ?_
    simp only [Option.some.injEq, Prod.mk.injEq] at h
    obtain ⟨rfl, rfl, rfl, rfl⟩ := h
    refine AWp.ret ?_
    exact ⟨.inr rfl, _, _, _, Res.cl Tryd.underlying26 Y26, ⟨rfl, rfl⟩, PartV.at [] [0, 5] base1 (H.c (H.c .nil))⟩
   ·
    have hb33 := hb
    try simp only [hS, hE, ne_eq] at hb
    first | rw [if_pos hb33] at h | rw [if_neg (Bool.eq_false_iff.1 hb33)] at h | rw [if_pos hb] at h | rw [if_neg hb] at h | (simp only [hb, hT, reduceIte] at h) | skip
    refine AWp.skip ?_
    refine AWp.seq ?_
    refine AWp.region ?_
    refine L.S (S.ldN Tryd.underlying26 Y26) ?_
    replace h := Option.bind_eq_some_iff.1 h
    obtain ⟨⟨t309, t310, t313⟩, hc34, h⟩ := h
    dsimp only at h
    refine L.C (C.callE (l := true) [] Tryd.func200 (spec_CloseRelation.ac _ _ _ _ _ _ hc34) .nil ?_)
    refine L.Y Y.mv ?_
    refine L.Y Y.ex ?_
    refine L.Y Y.ex ?_
    refine L.M (M.al Y26) ?_
    refine L.S (S.stb Y26) ?_
    refine L.Y Y.asg ?_
    refine AList.nil ?_
    refine AWp.seq ?_
    refine W.kp [0, 4, 5, 6, 7, 8, 9, 12, 14, 53, 97] ?_
    refine AWp.region ?_
    refine L.S (S.ldN Tryd.underlying26 Y26) ?_
    refine L.S (S.stb Y26) ?_
    refine AList.nil ?_
    simp only [Option.some.injEq, Prod.mk.injEq] at h
    obtain ⟨rfl, rfl, rfl, rfl⟩ := h
    refine AWp.ret ?_
    exact ⟨.inr rfl, _, _, _, Res.cl Tryd.underlying26 Y26, ⟨rfl, rfl⟩, PartV.at [] [0, 6] base1 (H.c (H.c .nil))⟩

/-! ### spec_l1Cur_anyOrder: function 90 -/
def spec_l1Cur_anyOrder.f (k : Nat) (s0_0 : List Int) (s0_1 : Int) (s0_2 : Int) (a1 : Int) : Option (Int × List Int × Int × Int) := (spec_l1Cur_order.f k s0_0 s0_1 s0_2 a1).bind fun bt330 => ((spec_l1Cur_pick.f s0_0 bt330.2.2.1 bt330.2.2.2 14).bind fun bt337 => (if bt337.1 = 0 then ((spec_l1Cur_relation.f k s0_0 bt337.2.1 bt337.2.2 a1).bind fun bt340 => (some (bt340.1, bt340.2.1, bt340.2.2.1, bt340.2.2.2))) else (if bt337.1 = 1 then ((spec_l1Cur_among.f s0_0 bt337.2.1 bt337.2.2 (([(-1), 0, 10, 11] : List Int))).bind fun bt349 => (some (bt349.1, bt330.2.1, bt349.2.1, bt349.2.2))) else (if bt337.1 = 2 then (if (bt330.2.1.length : Int) > 0 then ((spec_l1Cur_pick.f s0_0 bt337.2.1 bt337.2.2 (bt330.2.1.length : Int)).bind fun bt352 => (if 0 ≤ bt330.1 then ((spec_l1Cur_among.f s0_0 bt352.2.1 bt352.2.2 (([(-1), 0, 1, shl .i64 1 bt330.1] : List Int))).bind fun bt358 => (if 0 ≤ bt352.1 then (if bt352.1 < (bt330.2.1.length : Int) then (some (bt330.1, (bt330.2.1.set (bt352.1 : Int).toNat bt358.1), bt358.2.1, bt358.2.2)) else (none)) else (none))) else (none))) else (some (bt330.1, bt330.2.1, bt337.2.1, bt337.2.2))) else (if bt337.1 = 3 then ((spec_l1Cur_order.f k s0_0 bt337.2.1 bt337.2.2 10).bind fun bt362 => (some (bt362.1, bt362.2.1, bt362.2.2.1, bt362.2.2.2))) else (some (bt330.1, bt330.2.1, bt337.2.1, bt337.2.2)))))))
set_option maxRecDepth 100000 in
set_option maxHeartbeats 20000000 in
theorem spec_l1Cur_anyOrder.ac (k : Nat) (s0_0 : List Int) (s0_1 : Int) (s0_2 : Int) (a1 : Int) (r1 : Int) (r2 : List Int) (r3 : Int) (r4 : Int) (h : spec_l1Cur_anyOrder.f k s0_0 s0_1 s0_2 a1 = some (r1, r2, r3, r4)) :
  ACalls Tryd.prog 90 [.ptr 0 0, .lit (.int .i64 a1)] [.bx 106 [.row 1 s0_0.length false (ints .u8 s0_0), .lit (.int .i64 s0_1), .lit (.int .u64 s0_2)]] (fun v H' => v = .agg [.lit (.int .i64 r1), .own 1 r2.length] ∧ H' = [.bx 106 [.row 1 s0_0.length false (ints .u8 s0_0), .lit (.int .i64 r3), .lit (.int .u64 r4)], .sl 3 1 r2.length false (ints .i64 r2)]) := by
 refine ACalls.ofV Tryd.func90 rfl (by exact Nat.le_of_ble_eq_true rfl) ?_
 simp only [Tryd.ntmps90, env0, spec_l1Cur_anyOrder.f] at h ⊢
 refine AWp.seq ?_
 refine AWp.region ?_
 refine L.M (M.al Y26) ?_
 refine AList.nil ?_
 refine AWp.seq ?_
 refine AWp.region ?_
 refine L.Y Y.mv ?_
 refine L.Y Y.mv ?_
 replace h := Option.bind_eq_some_iff.1 h
 obtain ⟨⟨t330, t331, t334, t335⟩, hc1, h⟩ := h
 dsimp only at h
 refine L.C (C.callE (l := false) [0] Tryd.func158 (spec_l1Cur_order.ac _ _ _ _ _ _ _ _ _ hc1) (H.c .nil) ?_)
 refine L.M (M.al Y26) ?_
 refine L.S (S.stb Y26) ?_
 refine AList.nil ?_
 refine AWp.seq ?_
 refine AWp.seq ?_
 refine AWp.region ?_
 refine L.Y Y.mv ?_
 replace h := Option.bind_eq_some_iff.1 h
 obtain ⟨⟨t337, t338, t339⟩, hc2, h⟩ := h
 dsimp only at h
 refine L.C (C.callE (l := false) [0] Tryd.func94 (spec_l1Cur_pick.ac _ _ _ _ _ _ _ hc2) (H.c .nil) ?_)
 refine AList.nil ?_
 refine AWp.block ?_
 refine AWp.seq ?_
 refine W.kp [0, 1, 4, 5, 10] ?_
 refine AWp.region ?_
 refine L.Y Y.bin ?_
 refine L.Y Y.asg ?_
 refine AList.nil ?_
 refine W.cond (fun hb => ?_) (fun hb => ?_)
 ·
  have hb3 := hb
  try simp only [hS, hE, ne_eq] at hb
  first | rw [if_pos hb3] at h | rw [if_neg (Bool.eq_false_iff.1 hb3)] at h | rw [if_pos hb] at h | rw [if_neg hb] at h | (simp only [hb, hT, reduceIte] at h) | skip
  refine AWp.seq ?_
  refine AWp.region ?_
  refine L.Y Y.mv ?_
  refine L.Y Y.mv ?_
  replace h := Option.bind_eq_some_iff.1 h
  obtain ⟨⟨t340, t341, t344, t345⟩, hc4, h⟩ := h
  dsimp only at h
  refine L.C (C.callE (l := false) [0] Tryd.func92 (spec_l1Cur_relation.ac _ _ _ _ _ _ _ _ _ hc4) (H.c .nil) ?_)
  refine L.S (S.stb Y26) ?_
  refine AList.nil ?_
  simp only [Option.some.injEq, Prod.mk.injEq] at h
  obtain ⟨rfl, rfl, rfl, rfl⟩ := h
  refine AWp.ret ?_
  exact ⟨.inr rfl, _, _, _, Res.cl Tryd.underlying26 Y26, ⟨rfl, rfl⟩, PartV.at [] [0, 4] base1 (H.c (H.c .nil))⟩
 ·
  have hb3 := hb
  try simp only [hS, hE, ne_eq] at hb
  first | rw [if_pos hb3] at h | rw [if_neg (Bool.eq_false_iff.1 hb3)] at h | rw [if_pos hb] at h | rw [if_neg hb] at h | (simp only [hb, hT, reduceIte] at h) | skip
  refine AWp.seq ?_
  refine AWp.region ?_
  refine L.Y Y.bin ?_
  refine L.Y Y.asg ?_
  refine AList.nil ?_
  refine W.cond (fun hb => ?_) (fun hb => ?_)
  ·
   have hb5 := hb
   try simp only [hS, hE, ne_eq] at hb
   first | rw [if_pos hb5] at h | rw [if_neg (Bool.eq_false_iff.1 hb5)] at h | rw [if_pos hb] at h | rw [if_neg hb] at h | (simp only [hb, hT, reduceIte] at h) | skip
   repeat (first | (rw [iN] at h; obtain ⟨_, h⟩ := h) | (rw [iP] at h; obtain ⟨_, h⟩ := h) | (simp only [bS] at h))
   refine AWp.region ?_
   refine L.Y Y.mv ?_
   refine L.M (M.bs Tryd.underlying22 Y3) ?_
   replace h := Option.bind_eq_some_iff.1 h
   obtain ⟨⟨t349, t350, t351⟩, hc6, h⟩ := h
   dsimp only at h
   refine L.C ?_
   refine C.frz 4 ?_
   refine C.callE (l := false) [0] Tryd.func93 (spec_l1Cur_among.ac _ _ _ _ _ _ _ hc6) (H.c .nil) ?_
   refine L.Y (Y.fa (off := 0) Tryd.underlying26 Y3) ?_
   refine L.S (S.stb Y3) ?_
   refine AList.nil ?_
   refine AWp.seq ?_
   refine W.kp [0, 1, 4, 5, 10, 11, 16] ?_
   refine AWp.region ?_
   refine L.S (S.ldN Tryd.underlying26 Y26) ?_
   refine L.S (S.stb Y26) ?_
   refine AList.nil ?_
   simp only [Option.some.injEq, Prod.mk.injEq] at h
   obtain ⟨rfl, rfl, rfl, rfl⟩ := h
   refine AWp.ret ?_
   exact ⟨.inr rfl, _, _, _, Res.cl Tryd.underlying26 Y26, ⟨rfl, rfl⟩, PartV.at [] [0, 2] base1 (H.c (H.c .nil))⟩
  ·
   have hb5 := hb
   try simp only [hS, hE, ne_eq] at hb
   first | rw [if_pos hb5] at h | rw [if_neg (Bool.eq_false_iff.1 hb5)] at h | rw [if_pos hb] at h | rw [if_neg hb] at h | (simp only [hb, hT, reduceIte] at h) | skip
   refine AWp.seq ?_
   refine AWp.region ?_
   refine L.Y Y.bin ?_
   refine L.Y Y.asg ?_
   refine AList.nil ?_
   refine W.cond (fun hb => ?_) (fun hb => ?_)
   ·
    have hb7 := hb
    try simp only [hS, hE, ne_eq] at hb
    first | rw [if_pos hb7] at h | rw [if_neg (Bool.eq_false_iff.1 hb7)] at h | rw [if_pos hb] at h | rw [if_neg hb] at h | (simp only [hb, hT, reduceIte] at h) | skip
    refine AWp.seq ?_
    refine AWp.region ?_
    refine L.Y (Y.fa (off := 1) Tryd.underlying26 Y22) ?_
    refine L.S (S.ld Tryd.underlying22) ?_
    refine L.Y (Y.ln Tryd.underlying22) ?_
    refine L.Y Y.bin ?_
    refine AList.nil ?_
    refine W.cond (fun hb => ?_) (fun hb => ?_)
    ·
     have hb8 := hb
     try simp only [hS, hE, ne_eq] at hb
     first | rw [if_pos hb8] at h | rw [if_neg (Bool.eq_false_iff.1 hb8)] at h | rw [if_pos hb] at h | rw [if_neg hb] at h | (simp only [hb, hT, reduceIte] at h) | skip
     refine W.kp [0, 1, 4, 5, 10, 11, 16, 22, 27] ?_
     replace h := Option.bind_eq_some_iff.1 h
     obtain ⟨⟨t352, t353, t354⟩, hc9, h⟩ := h
     dsimp only at h
     repeat (first | (rw [iN] at h; obtain ⟨_, h⟩ := h) | (rw [iP] at h; obtain ⟨_, h⟩ := h) | (simp only [bS] at h))
     replace h := Option.bind_eq_some_iff.1 h
     obtain ⟨⟨t358, t359, t360⟩, hc10, h⟩ := h
     dsimp only at h
     repeat (first | (rw [iN] at h; obtain ⟨_, h⟩ := h) | (rw [iP] at h; obtain ⟨_, h⟩ := h) | (simp only [bS] at h))
     apply AWp.joinX
     ·
      refine Dt.reg [true] [14] (.y 0 (.t 1 (.y 2 (.y 3 (.t 4 (.y 5 (.y 7 (.y 8 (.t 9 (.y 10 (.two 6 (.one 11 (.one 12 (.y 13 (.last 14 .done)))) 11 (.one 6 (.one 12 (.y 13 (.last 14 .done))))))))))))))) HM ?_
      refine Dt.Y rfl wantN (Y.fa (off := 1) Tryd.underlying26 Y22) ?_
      refine Dt.T rfl wantN (D.ld Tryd.underlying22) ?_
      refine Dt.Y rfl wantN Y.mv ?_
      refine Dt.Y rfl wantN (Y.fa (off := 1) Tryd.underlying26 Y22) ?_
      refine Dt.T rfl wantN (D.ld Tryd.underlying22) ?_
      refine Dt.Y rfl wantN (Y.ln Tryd.underlying22) ?_
      refine Dt.Y rfl wantN Y.mv ?_
      refine Dt.Y rfl wantN (Y.fa (off := 0) Tryd.underlying26 Y3) ?_
      refine Dt.T rfl wantN (D.ld Tryd.underlying3) ?_
      refine Dt.Y rfl wantN Y.bin ?_
      refine Dt.B (g1 := true) (g2 := false) rfl rfl wantN wantN ?_ ?_
      ·
       skip
       refine Ox.C false [0] Tryd.func94 (spec_l1Cur_pick.ac _ _ _ _ _ _ _ hc9) (H.c .nil) ?_
       refine Dt.O (g' := false) rfl wantN ?_
       refine Ox.M (M.bs Tryd.underlying22 Y3) ?_
       refine Dt.O (g' := true) rfl wantN ?_
       refine Ox.frz (g' := true) 4 ?_
       refine Ox.C false [0] Tryd.func93 (spec_l1Cur_among.ac _ _ _ _ _ _ _ hc10) (H.c .nil) ?_
       refine Dt.Y rfl wantN (Y.ixo Tryd.underlying22 Y3) ?_
       refine Dt.L rfl wantN ?_
       refine Op.S (S.sts Y3) ?_
       refine Du.nil ?_
       exact ⟨rfl, .inl ⟨rfl, rfl⟩⟩
      ·
       skip
       refine Ox.M (M.bs Tryd.underlying22 Y3) ?_
       refine Dt.O (g' := true) rfl wantN ?_
       refine Ox.C false [0] Tryd.func94 (spec_l1Cur_pick.ac _ _ _ _ _ _ _ hc9) (H.c .nil) ?_
       refine Dt.O (g' := true) rfl wantN ?_
       refine Ox.frz (g' := true) 4 ?_
       refine Ox.C false [0] Tryd.func93 (spec_l1Cur_among.ac _ _ _ _ _ _ _ hc10) (H.c .nil) ?_
       refine Dt.Y rfl wantN (Y.ixo Tryd.underlying22 Y3) ?_
       refine Dt.L rfl wantN ?_
       refine Op.S (S.sts Y3) ?_
       refine Du.nil ?_
       exact ⟨rfl, .inr (IsPart.at [] [0, 1, 2, 3, 4] base1 (H.c (H.c (H.c (H.c (H.c .nil))))) (by repeat' first | exact .nil | refine E.c ?_))⟩
     ·
      skip
      refine AWp.seq ?_
      refine W.kp [0, 1, 4, 5, 10, 11, 16, 22, 27] ?_
      refine AWp.region ?_
      refine L.S (S.ldN Tryd.underlying26 Y26) ?_
      refine L.S (S.stb Y26) ?_
      refine AList.nil ?_
      simp only [Option.some.injEq, Prod.mk.injEq] at h
      obtain ⟨rfl, rfl, rfl, rfl⟩ := h
      refine AWp.ret ?_
      exact ⟨.inr rfl, _, _, _, Res.cl Tryd.underlying26 Y26, ⟨rfl, rfl⟩, PartV.at [] [0, 2] base1 (H.c (H.c .nil))⟩
    ·
     have hb8 := hb
     try simp only [hS, hE, ne_eq] at hb
     first | rw [if_pos hb8] at h | rw [if_neg (Bool.eq_false_iff.1 hb8)] at h | rw [if_pos hb] at h | rw [if_neg hb] at h | (simp only [hb, hT, reduceIte] at h) | skip
     refine AWp.skip ?_
     refine AWp.seq ?_
     refine W.kp [0, 1, 4, 5, 10, 11, 16, 22, 27] ?_
     refine AWp.region ?_
     refine L.S (S.ldN Tryd.underlying26 Y26) ?_
     refine L.S (S.stb Y26) ?_
     refine AList.nil ?_
     simp only [Option.some.injEq, Prod.mk.injEq] at h
     obtain ⟨rfl, rfl, rfl, rfl⟩ := h
     refine AWp.ret ?_
     exact ⟨.inr rfl, _, _, _, Res.cl Tryd.underlying26 Y26, ⟨rfl, rfl⟩, PartV.at [] [0, 2] base1 (H.c (H.c .nil))⟩
   ·
    have hb7 := hb
    try simp only [hS, hE, ne_eq] at hb
    first | rw [if_pos hb7] at h | rw [if_neg (Bool.eq_false_iff.1 hb7)] at h | rw [if_pos hb] at h | rw [if_neg hb] at h | (simp only [hb, hT, reduceIte] at h) | skip
    refine AWp.seq ?_
    refine AWp.region ?_
    refine L.Y Y.bin ?_
    refine L.Y Y.asg ?_
    refine AList.nil ?_
    refine W.cond (fun hb => ?_) (fun hb => ?_)
    ·
     have hb11 := hb
     try simp only [hS, hE, ne_eq] at hb
     first | rw [if_pos hb11] at h | rw [if_neg (Bool.eq_false_iff.1 hb11)] at h | rw [if_pos hb] at h | rw [if_neg hb] at h | (simp only [hb, hT, reduceIte] at h) | skip
     refine AWp.seq ?_
     refine W.kp [0, 1, 4, 5, 10, 11, 16, 22, 42] ?_
     refine AWp.region ?_
     refine L.Y Y.mv ?_
     replace h := Option.bind_eq_some_iff.1 h
     obtain ⟨⟨t362, t363, t366, t367⟩, hc12, h⟩ := h
     dsimp only at h
     refine L.C (C.callE (l := false) [0] Tryd.func158 (spec_l1Cur_order.ac _ _ _ _ _ _ _ _ _ hc12) (H.c .nil) ?_)
     refine L.S (S.stb Y26) ?_
     refine AList.nil ?_
     simp only [Option.some.injEq, Prod.mk.injEq] at h
     obtain ⟨rfl, rfl, rfl, rfl⟩ := h
     refine AWp.ret ?_
     exact ⟨.inr rfl, _, _, _, Res.cl Tryd.underlying26 Y26, ⟨rfl, rfl⟩, PartV.at [] [0, 4] base1 (H.c (H.c .nil))⟩
    ·
     have hb11 := hb
     try simp only [hS, hE, ne_eq] at hb
     first | rw [if_pos hb11] at h | rw [if_neg (Bool.eq_false_iff.1 hb11)] at h | rw [if_pos hb] at h | rw [if_neg hb] at h | (simp only [hb, hT, reduceIte] at h) | skip
     refine AWp.skip ?_
     refine AWp.seq ?_
     refine W.kp [0, 1, 4, 5, 10, 11, 16, 22, 42] ?_
     refine AWp.region ?_
     refine L.S (S.ldN Tryd.underlying26 Y26) ?_
     refine L.S (S.stb Y26) ?_
     refine AList.nil ?_
     simp only [Option.some.injEq, Prod.mk.injEq] at h
     obtain ⟨rfl, rfl, rfl, rfl⟩ := h
     refine AWp.ret ?_
     exact ⟨.inr rfl, _, _, _, Res.cl Tryd.underlying26 Y26, ⟨rfl, rfl⟩, PartV.at [] [0, 2] base1 (H.c (H.c .nil))⟩

end Go.Proofs.YtakabmokpknknaaDoor.PFnTablesOfRelations
