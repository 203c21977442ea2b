-- Written by a program of this session's (wip/myprint2): the functions by the kit's print, the walks by awgen.py. Lean checks it.
import Derived.Test.YtakabmokpknknaaPFnBiordersHaveScalesx0
import Derived.Test.YtakabmokpknknaaPFnBiordersHaveScalesx6
namespace Go.Proofs.Ytakabmokpknknaa.PFnBiordersHaveScales
open Go.RowKit Go.Proofs.YtakabmokpknknaaW.PrintWords Go.Proofs.YtakabmokpknknaaW.PrintLast Go.Proofs.YtakabmokpknknaaW.PrintMore Go.Proofs.YtakabmokpknknaaM Go.Proofs.YtakabmokpknknaaA
attribute [local go_sem] max2_int min2_int max_two min_two max_three min_three max_four min_four   -- for this text's walks alone
set_option linter.unusedVariables false
set_option linter.unusedSimpArgs false

/-! ### spec_l1Cur_table: function 62 -/
mutual
def spec_l1Cur_table.l0 : Nat → Int → Int → Int → Int → List Int → Int → Int → Int → Int → List Int → Option (Int × Int × List Int × Int × Int)
 | 0, _, _, _, _, _, _, _, _, _, _ => none
 | k + 1, x3, x4, x6, x7, x1000, x1001, x1002, x245000, x245001, x245002 => if x7 < x3 then (spec_l1Cur_table.l1 k x3 x4 x6 x7 0 0 x1000 x1001 x1002 x245000 x245001 x245002) else (if x6 = 2 then (spec_l1Cur_table.l2 k x3 x4 ([] : List Int) 0 x1000 x1001 x1002) else (spec_l1Cur_table.j4 k x3 x4 x1000 x1001 x1002 x245000 x245001 x245002))
def spec_l1Cur_table.l1 : Nat → Int → Int → Int → Int → Int → Int → List Int → Int → Int → Int → Int → List Int → Option (Int × Int × List Int × Int × Int)
 | 0, _, _, _, _, _, _, _, _, _, _, _, _ => none
 | k + 1, x3, x4, x6, x7, x8, x9, x1000, x1001, x1002, x245000, x245001, x245002 => if x9 < x4 then (if x6 = 0 then ((spec_l1Cur_one.f x1000 x1001 x1002 2).bind fun bt251 => (if bt251.1 = true then (if 0 ≤ x9 then (spec_l1Cur_table.l1 k x3 x4 x6 x7 (Go.bits .or .i64 x8 (shl .i64 1 x9)) (wrap64 (x9 + 1)) x1000 bt251.2.1 bt251.2.2 x245000 x245001 x245002) else (none)) else (if x6 = 1 then ((spec_l1Cur_one.f x1000 bt251.2.1 bt251.2.2 4).bind fun bt254 => (if bt254.1 = true then (spec_l1Cur_table.l1 k x3 x4 x6 x7 x8 (wrap64 (x9 + 1)) x1000 bt254.2.1 bt254.2.2 x245000 x245001 x245002) else (if 0 ≤ x9 then (spec_l1Cur_table.l1 k x3 x4 x6 x7 (Go.bits .or .i64 x8 (shl .i64 1 x9)) (wrap64 (x9 + 1)) x1000 bt254.2.1 bt254.2.2 x245000 x245001 x245002) else (none)))) else (spec_l1Cur_table.l1 k x3 x4 x6 x7 x8 (wrap64 (x9 + 1)) x1000 bt251.2.1 bt251.2.2 x245000 x245001 x245002)))) else (if x6 = 1 then ((spec_l1Cur_one.f x1000 x1001 x1002 4).bind fun bt257 => (if bt257.1 = true then (spec_l1Cur_table.l1 k x3 x4 x6 x7 x8 (wrap64 (x9 + 1)) x1000 bt257.2.1 bt257.2.2 x245000 x245001 x245002) else (if 0 ≤ x9 then (spec_l1Cur_table.l1 k x3 x4 x6 x7 (Go.bits .or .i64 x8 (shl .i64 1 x9)) (wrap64 (x9 + 1)) x1000 bt257.2.1 bt257.2.2 x245000 x245001 x245002) else (none)))) else (spec_l1Cur_table.l1 k x3 x4 x6 x7 x8 (wrap64 (x9 + 1)) x1000 x1001 x1002 x245000 x245001 x245002))) else (if x245002.length < 17592186044416 then (spec_l1Cur_table.l0 k x3 x4 x6 (wrap64 (x7 + 1)) x1000 x1001 x1002 x245000 x245001 (x245002 ++ [x8])) else (none))
def spec_l1Cur_table.j4 : Nat → Int → Int → List Int → Int → Int → Int → Int → List Int → Option (Int × Int × List Int × Int × Int)
 | 0, _, _, _, _, _, _, _, _ => none
 | k + 1, x3, x4, x1000, x1001, x1002, x245000, x245001, x245002 => (spec_l1Cur_pick.f x1000 x1001 x1002 24).bind fun bt278 => (if bt278.1 = 0 then (if 0 ≤ x4 then ((spec_l1Cur_among.f x1000 bt278.2.1 bt278.2.2 (([(-1), 0, shl .i64 1 x4, wrap64 ((shl .i64 1 x4) - 1)] : List Int))).bind fun bt284 => (if 0 < (x245002.length : Int) then (some (x245000, x245001, (x245002.set (0 : Int).toNat bt284.1), bt284.2.1, bt284.2.2)) else (none))) else (none)) else (if bt278.1 = 1 then ((spec_l1Cur_among.f x1000 bt278.2.1 bt278.2.2 (([0, (-1), wrap64 (x3 + 1), 7] : List Int))).bind fun bt291 => (some (bt291.1, x245001, x245002, bt291.2.1, bt291.2.2))) else (if bt278.1 = 2 then ((spec_l1Cur_among.f x1000 bt278.2.1 bt278.2.2 (([0, (-1), wrap64 (x4 + 1), 7] : List Int))).bind fun bt297 => (some (x245000, bt297.1, x245002, bt297.2.1, bt297.2.2))) else (if bt278.1 = 3 then ((spec_l1Cur_pick.f x1000 bt278.2.1 bt278.2.2 64).bind fun bt300 => (some (6, 6, (([63, 31, 62, 15, 7, bt300.1] : List Int)), bt300.2.1, bt300.2.2))) else (some (x245000, x245001, x245002, bt278.2.1, bt278.2.2))))))
def spec_l1Cur_table.l2 : Nat → Int → Int → List Int → Int → List Int → Int → Int → Option (Int × Int × List Int × Int × Int)
 | 0, _, _, _, _, _, _, _ => none
 | k + 1, x3, x4, x10, x12, x1000, x1001, x1002 => if x12 < x3 then ((spec_l1Cur_pick.f x1000 x1001 x1002 6).bind fun bt260 => (if x10.length < 17592186044416 then (spec_l1Cur_table.l2 k x3 x4 (x10 ++ [bt260.1]) (wrap64 (x12 + 1)) x1000 bt260.2.1 bt260.2.2) else (none))) else (spec_l1Cur_table.l3 k x3 x4 x10 ([] : List Int) 0 x1000 x1001 x1002)
def spec_l1Cur_table.l3 : Nat → Int → Int → List Int → List Int → Int → List Int → Int → Int → Option (Int × Int × List Int × Int × Int)
 | 0, _, _, _, _, _, _, _, _ => none
 | k + 1, x3, x4, x10, x11, x13, x1000, x1001, x1002 => if x13 < x4 then ((spec_l1Cur_pick.f x1000 x1001 x1002 6).bind fun bt266 => (if x11.length < 17592186044416 then (spec_l1Cur_table.l3 k x3 x4 x10 (x11 ++ [bt266.1]) (wrap64 (x13 + 1)) x1000 bt266.2.1 bt266.2.2) else (none))) else ((spec_TableOfScales.f k x10 x11).bind fun bt272 => (spec_l1Cur_table.j4 k x3 x4 x1000 x1001 x1002 bt272.1 bt272.2.1 bt272.2.2.1))
end
def spec_l1Cur_table.f (k : Nat) (s0_0 : List Int) (s0_1 : Int) (s0_2 : Int) : Option (Int × Int × List Int × Int × Int) := (spec_l1Cur_pick.f s0_0 s0_1 s0_2 4).bind fun bt238 => ((spec_l1Cur_pick.f s0_0 bt238.2.1 bt238.2.2 4).bind fun bt241 => ((spec_l1Cur_pick.f s0_0 bt241.2.1 bt241.2.2 3).bind fun bt245 => (spec_l1Cur_table.l0 k (wrap64 (1 + bt238.1)) (wrap64 (1 + bt241.1)) bt245.1 0 s0_0 bt245.2.1 bt245.2.2 (wrap64 (1 + bt238.1)) (wrap64 (1 + bt241.1)) ([] : List Int))))
set_option maxRecDepth 100000 in
set_option maxHeartbeats 20000000 in
theorem spec_l1Cur_table.ac (k : Nat) (s0_0 : List Int) (s0_1 : Int) (s0_2 : Int) (r1 : Int) (r2 : Int) (r3 : List Int) (r4 : Int) (r5 : Int) (h : spec_l1Cur_table.f k s0_0 s0_1 s0_2 = some (r1, r2, r3, r4, r5)) :
  ACalls Try.prog 62 [.ptr 0 0] [.bx 65 [.row 1 s0_0.length false (ints .u8 s0_0), .lit (.int .i64 s0_1), .lit (.int .u64 s0_2)]] (fun v H' => v = .agg [.lit (.int .i64 r1), .lit (.int .i64 r2), .own 1 r3.length] ∧ H' = [.bx 65 [.row 1 s0_0.length false (ints .u8 s0_0), .lit (.int .i64 r4), .lit (.int .u64 r5)], .sl 3 1 r3.length false (ints .i64 r3)]) := by
 refine ACalls.ofV Try.func62 rfl (by exact Nat.le_of_ble_eq_true rfl) ?_
 simp only [Try.ntmps62, env0, spec_l1Cur_table.f] at h ⊢
 refine AWp.seq ?_
 refine AWp.region ?_
 refine L.M (M.al Y26) ?_
 refine AList.nil ?_
 refine AWp.seq ?_
 refine AWp.region ?_
 refine L.Y Y.mv ?_
 replace h := Option.bind_eq_some_iff.1 h
 obtain ⟨⟨t238, t239, t240⟩, hc1, h⟩ := h
 dsimp only at h
 refine L.C (C.callE (l := false) [0] Try.func53 (spec_l1Cur_pick.ac _ _ _ _ _ _ _ hc1) (H.c .nil) ?_)
 refine L.Y Y.bin ?_
 refine L.Y Y.mv ?_
 replace h := Option.bind_eq_some_iff.1 h
 obtain ⟨⟨t241, t242, t243⟩, hc2, h⟩ := h
 dsimp only at h
 refine L.C (C.callE (l := false) [0] Try.func53 (spec_l1Cur_pick.ac _ _ _ _ _ _ _ hc2) (H.c .nil) ?_)
 refine L.Y Y.bin ?_
 refine L.Y Y.asg ?_
 refine L.Y Y.asg ?_
 refine AList.nil ?_
 refine AWp.seq ?_
 refine W.kp [0, 2, 3, 4] ?_
 refine AWp.region ?_
 refine L.Y Y.mv ?_
 refine L.Y Y.mv ?_
 refine L.Y (Y.bd Try.underlying26 Y26 P26) ?_
 refine L.M (M.al Y26) ?_
 refine L.S (S.stb Y26) ?_
 refine AList.nil ?_
 refine AWp.seq ?_
 refine AWp.region ?_
 refine L.Y Y.mv ?_
 replace h := Option.bind_eq_some_iff.1 h
 obtain ⟨⟨t245, t246, t247⟩, hc3, h⟩ := h
 dsimp only at h
 refine L.C (C.callE (l := false) [0] Try.func53 (spec_l1Cur_pick.ac _ _ _ _ _ _ _ hc3) (H.c .nil) ?_)
 refine L.Y Y.asg ?_
 refine AList.nil ?_
 refine AWp.seq ?_
 refine AWp.seq ?_
 refine W.kp [0, 2, 3, 4, 5, 6] ?_
 refine AWp.region ?_
 refine L.Y Y.asg ?_
 refine AList.nil ?_
 refine AWp.block ?_
 refine AWp.loopI (fun kk e H => kk ≤ k ∧ ∃ (x3 : Int) (x4 : Int) (x6 : Int) (x7 : Int) (x1001 : Int) (x1002 : Int) (x238000 : Int) (x238001 : Int) (x245000 : Int) (x245001 : Int) (x245002 : List Int), e = [(0, .ptr 0 0), (2, .ptr 1 0), (3, .lit (.int .i64 x3)), (4, .lit (.int .i64 x4)), (5, .ptr 2 0), (6, .lit (.int .i64 x6)), (7, .lit (.int .i64 x7))] ∧ H = [.bx 65 [.row 1 s0_0.length false (ints .u8 s0_0), .lit (.int .i64 x1001), .lit (.int .u64 x1002)], .bx 26 [.lit (.int .i64 x238000), .lit (.int .i64 x238001), .lit (.slice none 0 0)], .bx 26 [.lit (.int .i64 x245000), .lit (.int .i64 x245001), .own 3 x245002.length], .sl 3 1 x245002.length false (ints .i64 x245002)] ∧ spec_l1Cur_table.l0 kk x3 x4 x6 x7 s0_0 x1001 x1002 x245000 x245001 x245002 = some (r1, r2, r3, r4, r5)) (k := k)
  ⟨_, _, ⟨Nat.le_refl _, _, _, _, _, _, _, _, _, _, _, _, rfl, rfl, h⟩, IsPart.at [(3, 1)] [0, 1, 2, 3] base1 (H.c (H.c (H.c (H.c .nil)))) (E.c (E.c (E.c (E.c (E.c (E.c (E.c .nil)))))))⟩ ?_
 clear h
 rintro k4 e H ⟨hk5, x3, x4, x6, x7, x1001, x1002, x238000, x238001, x245000, x245001, x245002, rfl, rfl, h⟩
 cases k4 with
 | zero => exact absurd h (by simp [spec_l1Cur_table.l0])
 | succ k4 =>
 simp only [spec_l1Cur_table.l0] at h
 refine AWp.seq ?_
 refine AWp.seq ?_
 refine AWp.region ?_
 refine L.Y Y.mv ?_
 refine L.Y Y.mv ?_
 refine L.Y Y.bin ?_
 refine AList.nil ?_
 refine W.cond (fun hb => ?_) (fun hb => ?_)
 ·
  have hb6 := hb
  try simp only [hS, hE, ne_eq] at hb
  first | rw [if_pos hb6] at h | rw [if_neg (Bool.eq_false_iff.1 hb6)] at h | rw [if_pos hb] at h | rw [if_neg hb] at h | (simp only [hb, hT, reduceIte] at h) | skip
  refine AWp.skip ?_
  refine AWp.seq ?_
  refine AWp.block ?_
  refine AWp.seq ?_
  refine AWp.region ?_
  refine L.Y Y.asg ?_
  refine AList.nil ?_
  refine AWp.seq ?_
  refine AWp.seq ?_
  refine AWp.region ?_
  refine L.Y Y.asg ?_
  refine AList.nil ?_
  refine AWp.block ?_
  refine AWp.loopI (fun kk e H => kk ≤ k4 ∧ ∃ (x3 : Int) (x4 : Int) (x6 : Int) (x7 : Int) (x8 : Int) (x9 : Int) (x1001 : Int) (x1002 : Int) (x238000 : Int) (x238001 : Int) (x245000 : Int) (x245001 : Int) (x245002 : List Int), e = [(0, .ptr 0 0), (2, .ptr 1 0), (3, .lit (.int .i64 x3)), (4, .lit (.int .i64 x4)), (5, .ptr 2 0), (6, .lit (.int .i64 x6)), (7, .lit (.int .i64 x7)), (8, .lit (.int .i64 x8)), (9, .lit (.int .i64 x9))] ∧ H = [.bx 65 [.row 1 s0_0.length false (ints .u8 s0_0), .lit (.int .i64 x1001), .lit (.int .u64 x1002)], .bx 26 [.lit (.int .i64 x238000), .lit (.int .i64 x238001), .lit (.slice none 0 0)], .bx 26 [.lit (.int .i64 x245000), .lit (.int .i64 x245001), .own 3 x245002.length], .sl 3 1 x245002.length false (ints .i64 x245002)] ∧ spec_l1Cur_table.l1 kk x3 x4 x6 x7 x8 x9 s0_0 x1001 x1002 x245000 x245001 x245002 = some (r1, r2, r3, r4, r5)) (k := k4)
   ⟨_, _, ⟨Nat.le_refl _, _, _, _, _, _, _, _, _, _, _, _, _, _, rfl, rfl, h⟩, IsPart.at [] [0, 1, 2, 3] base1 (H.c (H.c (H.c (H.c .nil)))) (E.c (E.c (E.c (E.c (E.c (E.c (E.c (E.c (E.c .nil)))))))))⟩ ?_
  clear h
  rintro k7 e H ⟨hk8, x3, x4, x6, x7, x8, x9, x1001, x1002, x238000, x238001, x245000, x245001, x245002, rfl, rfl, h⟩
  cases k7 with
  | zero => exact absurd h (by simp [spec_l1Cur_table.l1])
  | succ k7 =>
  simp only [spec_l1Cur_table.l1] at h
  refine AWp.seq ?_
  refine AWp.seq ?_
  refine AWp.region ?_
  refine L.Y Y.mv ?_
  refine L.Y Y.mv ?_
  refine L.Y Y.bin ?_
  refine AList.nil ?_
  refine W.cond (fun hb => ?_) (fun hb => ?_)
  ·
   have hb9 := hb
   try simp only [hS, hE, ne_eq] at hb
   first | rw [if_pos hb9] at h | rw [if_neg (Bool.eq_false_iff.1 hb9)] at h | rw [if_pos hb] at h | rw [if_neg hb] at h | (simp only [hb, hT, reduceIte] at h) | skip
   refine AWp.skip ?_
   refine AWp.seq ?_
   refine AWp.block ?_
   refine AWp.seq ?_
   refine AWp.region ?_
   refine L.Y Y.mv ?_
   refine L.Y Y.bin ?_
   refine L.Y Y.mv ?_
   refine L.Gc (fun hb => ?_) (fun hb => ?_)
   ·
    have hb10 := hb
    try simp only [hS, hE, ne_eq] at hb
    first | rw [if_pos hb10] at h | rw [if_neg (Bool.eq_false_iff.1 hb10)] at h | rw [if_pos hb] at h | rw [if_neg hb] at h | (simp only [hb, hT, reduceIte] at h) | skip
    refine L.Gy hb10 Y.mv ?_
    replace h := Option.bind_eq_some_iff.1 h
    obtain ⟨⟨t251, t252, t253⟩, hc11, h⟩ := h
    dsimp only at h
    refine L.GC hb10 (C.callE (l := false) [0] Try.func54 (spec_l1Cur_one.ac _ _ _ _ _ _ _ hc11) (H.c .nil) ?_)
    refine L.Y (Y.pk (c := true) hb10) ?_
    refine L.Y Y.mv ?_
    refine L.Gc (fun hb => ?_) (fun hb => ?_)
    ·
     have hb12 := hb
     try simp only [hS, hE, ne_eq] at hb
     first | rw [if_pos hb12] at h | rw [if_neg (Bool.eq_false_iff.1 hb12)] at h | rw [if_pos hb] at h | rw [if_neg hb] at h | (simp only [hb, hT, reduceIte] at h) | skip
     repeat (first | (rw [iN] at h; obtain ⟨_, h⟩ := h) | (rw [iP] at h; obtain ⟨_, h⟩ := h) | (simp only [bS] at h))
     refine L.Gn hb12 ?_
     refine L.Gn hb12 ?_
     refine L.Gn hb12 ?_
     refine L.Nu ?_
     refine L.Nu ?_
     refine L.Nu ?_
     refine L.Gn hb12 ?_
     refine L.Y (Y.pk (c := true) hb12) ?_
     refine AList.nil ?_
     refine W.cond (fun hb => ?_) (fun hb => ?_)
     rotate_left
     ·
      first | exact Bool.false_ne_true ((Eq.symm (by assumption)).trans hb) | exact Bool.false_ne_true (hb.symm.trans (by assumption)) | exact DD hb
     have hb13 := hb
     refine W.kp [0, 2, 3, 4, 5, 6, 7, 8, 9, 32, 49] ?_
     refine AWp.region ?_
     refine L.Y Y.mv ?_
     refine L.Y Y.mv ?_
     refine L.Y Y.bin ?_
     refine L.Y Y.bin ?_
     refine L.Y Y.asg ?_
     refine AList.nil ?_
     refine W.kp [0, 2, 3, 4, 5, 6, 7, 8, 9, 32, 49] ?_
     refine AWp.region ?_
     refine L.Y Y.mv ?_
     refine L.Y Y.bin ?_
     refine L.Y Y.asg ?_
     refine AList.nil ?_
     exact ⟨k7, by omega, _, _, ⟨by omega, _, _, _, _, _, _, _, _, _, _, _, _, _, rfl, rfl, h⟩, IsPart.at [] [0, 1, 2, 3] base1 (H.c (H.c (H.c (H.c .nil)))) (E.c (E.c (E.c (E.c (E.c (E.c (E.c (E.c (E.c .nil)))))))))⟩
    ·
     have hb12 := hb
     try simp only [hS, hE, ne_eq] at hb
     first | rw [if_pos hb12] at h | rw [if_neg (Bool.eq_false_iff.1 hb12)] at h | rw [if_pos hb] at h | rw [if_neg hb] at h | (simp only [hb, hT, reduceIte] at h) | skip
     refine L.Gy hb12 Y.mv ?_
     refine L.Gy hb12 Y.bin ?_
     refine L.Gy hb12 Y.mv ?_
     refine L.Gc (fun hb => ?_) (fun hb => ?_)
     ·
      have hb14 := hb
      try simp only [hS, hE, ne_eq] at hb
      first | rw [if_pos hb14] at h | rw [if_neg (Bool.eq_false_iff.1 hb14)] at h | rw [if_pos hb] at h | rw [if_neg hb] at h | (simp only [hb, hT, reduceIte] at h) | skip
      refine L.Gy hb14 Y.mv ?_
      replace h := Option.bind_eq_some_iff.1 h
      obtain ⟨⟨t254, t255, t256⟩, hc15, h⟩ := h
      dsimp only at h
      refine L.GC hb14 (C.callE (l := false) [0] Try.func54 (spec_l1Cur_one.ac _ _ _ _ _ _ _ hc15) (H.c .nil) ?_)
      refine L.Gy hb14 Y.nt ?_
      refine L.Gy hb12 (Y.pk (c := true) hb14) ?_
      refine L.Y (Y.pk (c := false) hb12) ?_
      refine AList.nil ?_
      refine W.cond (fun hb => ?_) (fun hb => ?_)
      ·
       have hb16 := hb
       try simp only [hS, hE, ne_eq] at hb
       first | rw [if_pos hb16] at h | rw [if_neg (Bool.eq_false_iff.1 hb16)] at h | rw [if_pos hb] at h | rw [if_neg hb] at h | (simp only [hb, hT, reduceIte] at h) | skip
       repeat (first | (rw [iN] at h; obtain ⟨_, h⟩ := h) | (rw [iP] at h; obtain ⟨_, h⟩ := h) | (simp only [bS] at h))
       refine W.kp [0, 2, 3, 4, 5, 6, 7, 8, 9, 32, 49] ?_
       refine AWp.region ?_
       refine L.Y Y.mv ?_
       refine L.Y Y.mv ?_
       refine L.Y Y.bin ?_
       refine L.Y Y.bin ?_
       refine L.Y Y.asg ?_
       refine AList.nil ?_
       refine W.kp [0, 2, 3, 4, 5, 6, 7, 8, 9, 32, 49] ?_
       refine AWp.region ?_
       refine L.Y Y.mv ?_
       refine L.Y Y.bin ?_
       refine L.Y Y.asg ?_
       refine AList.nil ?_
       exact ⟨k7, by omega, _, _, ⟨by omega, _, _, _, _, _, _, _, _, _, _, _, _, _, rfl, rfl, h⟩, IsPart.at [] [0, 1, 2, 3] base1 (H.c (H.c (H.c (H.c .nil)))) (E.c (E.c (E.c (E.c (E.c (E.c (E.c (E.c (E.c .nil)))))))))⟩
      ·
       have hb16 := hb
       try simp only [hS, hE, ne_eq] at hb
       first | rw [if_pos hb16] at h | rw [if_neg (Bool.eq_false_iff.1 hb16)] at h | rw [if_pos hb] at h | rw [if_neg hb] at h | (simp only [hb, hT, reduceIte] at h) | skip
       refine AWp.skip ?_
       refine W.kp [0, 2, 3, 4, 5, 6, 7, 8, 9, 32, 49] ?_
       refine AWp.region ?_
       refine L.Y Y.mv ?_
       refine L.Y Y.bin ?_
       refine L.Y Y.asg ?_
       refine AList.nil ?_
       exact ⟨k7, by omega, _, _, ⟨by omega, _, _, _, _, _, _, _, _, _, _, _, _, _, rfl, rfl, h⟩, IsPart.at [] [0, 1, 2, 3] base1 (H.c (H.c (H.c (H.c .nil)))) (E.c (E.c (E.c (E.c (E.c (E.c (E.c (E.c (E.c .nil)))))))))⟩
     ·
      have hb14 := hb
      try simp only [hS, hE, ne_eq] at hb
      first | rw [if_pos hb14] at h | rw [if_neg (Bool.eq_false_iff.1 hb14)] at h | rw [if_pos hb] at h | rw [if_neg hb] at h | (simp only [hb, hT, reduceIte] at h) | skip
      refine L.Gn hb14 ?_
      refine L.Gn hb14 ?_
      refine L.Gn hb14 ?_
      refine L.Gy hb12 (Y.pk (c := false) hb14) ?_
      refine L.Y (Y.pk (c := false) hb12) ?_
      refine AList.nil ?_
      refine W.cond (fun hb => ?_) (fun hb => ?_)
      ·
       first | exact Bool.false_ne_true ((Eq.symm (by assumption)).trans hb) | exact Bool.false_ne_true (hb.symm.trans (by assumption)) | exact DD hb
      have hb17 := hb
      refine AWp.skip ?_
      refine W.kp [0, 2, 3, 4, 5, 6, 7, 8, 9, 32, 49] ?_
      refine AWp.region ?_
      refine L.Y Y.mv ?_
      refine L.Y Y.bin ?_
      refine L.Y Y.asg ?_
      refine AList.nil ?_
      exact ⟨k7, by omega, _, _, ⟨by omega, _, _, _, _, _, _, _, _, _, _, _, _, _, rfl, rfl, h⟩, IsPart.at [] [0, 1, 2, 3] base1 (H.c (H.c (H.c (H.c .nil)))) (E.c (E.c (E.c (E.c (E.c (E.c (E.c (E.c (E.c .nil)))))))))⟩
   ·
    have hb10 := hb
    try simp only [hS, hE, ne_eq] at hb
    first | rw [if_pos hb10] at h | rw [if_neg (Bool.eq_false_iff.1 hb10)] at h | rw [if_pos hb] at h | rw [if_neg hb] at h | (simp only [hb, hT, reduceIte] at h) | skip
    refine L.Gn hb10 ?_
    refine L.Gn hb10 ?_
    refine L.Y (Y.pk (c := false) hb10) ?_
    refine L.Y Y.mv ?_
    refine L.Gc (fun hb => ?_) (fun hb => ?_)
    ·
     first | exact Bool.false_ne_true ((Eq.symm (by assumption)).trans hb) | exact Bool.false_ne_true (hb.symm.trans (by assumption)) | exact DD hb
    have hb18 := hb
    refine L.Gy hb18 Y.mv ?_
    refine L.Gy hb18 Y.bin ?_
    refine L.Gy hb18 Y.mv ?_
    refine L.Gc (fun hb => ?_) (fun hb => ?_)
    ·
     have hb19 := hb
     try simp only [hS, hE, ne_eq] at hb
     first | rw [if_pos hb19] at h | rw [if_neg (Bool.eq_false_iff.1 hb19)] at h | rw [if_pos hb] at h | rw [if_neg hb] at h | (simp only [hb, hT, reduceIte] at h) | skip
     refine L.Gy hb19 Y.mv ?_
     replace h := Option.bind_eq_some_iff.1 h
     obtain ⟨⟨t257, t258, t259⟩, hc20, h⟩ := h
     dsimp only at h
     refine L.GC hb19 (C.callE (l := false) [0] Try.func54 (spec_l1Cur_one.ac _ _ _ _ _ _ _ hc20) (H.c .nil) ?_)
     refine L.Gy hb19 Y.nt ?_
     refine L.Gy hb18 (Y.pk (c := true) hb19) ?_
     refine L.Y (Y.pk (c := false) hb18) ?_
     refine AList.nil ?_
     refine W.cond (fun hb => ?_) (fun hb => ?_)
     ·
      have hb21 := hb
      try simp only [hS, hE, ne_eq] at hb
      first | rw [if_pos hb21] at h | rw [if_neg (Bool.eq_false_iff.1 hb21)] at h | rw [if_pos hb] at h | rw [if_neg hb] at h | (simp only [hb, hT, reduceIte] at h) | skip
      repeat (first | (rw [iN] at h; obtain ⟨_, h⟩ := h) | (rw [iP] at h; obtain ⟨_, h⟩ := h) | (simp only [bS] at h))
      refine W.kp [0, 2, 3, 4, 5, 6, 7, 8, 9, 32, 49] ?_
      refine AWp.region ?_
      refine L.Y Y.mv ?_
      refine L.Y Y.mv ?_
      refine L.Y Y.bin ?_
      refine L.Y Y.bin ?_
      refine L.Y Y.asg ?_
      refine AList.nil ?_
      refine W.kp [0, 2, 3, 4, 5, 6, 7, 8, 9, 32, 49] ?_
      refine AWp.region ?_
      refine L.Y Y.mv ?_
      refine L.Y Y.bin ?_
      refine L.Y Y.asg ?_
      refine AList.nil ?_
      exact ⟨k7, by omega, _, _, ⟨by omega, _, _, _, _, _, _, _, _, _, _, _, _, _, rfl, rfl, h⟩, IsPart.at [] [0, 1, 2, 3] base1 (H.c (H.c (H.c (H.c .nil)))) (E.c (E.c (E.c (E.c (E.c (E.c (E.c (E.c (E.c .nil)))))))))⟩
     ·
      have hb21 := hb
      try simp only [hS, hE, ne_eq] at hb
      first | rw [if_pos hb21] at h | rw [if_neg (Bool.eq_false_iff.1 hb21)] at h | rw [if_pos hb] at h | rw [if_neg hb] at h | (simp only [hb, hT, reduceIte] at h) | skip
      refine AWp.skip ?_
      refine W.kp [0, 2, 3, 4, 5, 6, 7, 8, 9, 32, 49] ?_
      refine AWp.region ?_
      refine L.Y Y.mv ?_
      refine L.Y Y.bin ?_
      refine L.Y Y.asg ?_
      refine AList.nil ?_
      exact ⟨k7, by omega, _, _, ⟨by omega, _, _, _, _, _, _, _, _, _, _, _, _, _, rfl, rfl, h⟩, IsPart.at [] [0, 1, 2, 3] base1 (H.c (H.c (H.c (H.c .nil)))) (E.c (E.c (E.c (E.c (E.c (E.c (E.c (E.c (E.c .nil)))))))))⟩
    ·
     have hb19 := hb
     try simp only [hS, hE, ne_eq] at hb
     first | rw [if_pos hb19] at h | rw [if_neg (Bool.eq_false_iff.1 hb19)] at h | rw [if_pos hb] at h | rw [if_neg hb] at h | (simp only [hb, hT, reduceIte] at h) | skip
     refine L.Gn hb19 ?_
     refine L.Gn hb19 ?_
     refine L.Gn hb19 ?_
     refine L.Gy hb18 (Y.pk (c := false) hb19) ?_
     refine L.Y (Y.pk (c := false) hb18) ?_
     refine AList.nil ?_
     refine W.cond (fun hb => ?_) (fun hb => ?_)
     ·
      first | exact Bool.false_ne_true ((Eq.symm (by assumption)).trans hb) | exact Bool.false_ne_true (hb.symm.trans (by assumption)) | exact DD hb
     have hb22 := hb
     refine AWp.skip ?_
     refine W.kp [0, 2, 3, 4, 5, 6, 7, 8, 9, 32, 49] ?_
     refine AWp.region ?_
     refine L.Y Y.mv ?_
     refine L.Y Y.bin ?_
     refine L.Y Y.asg ?_
     refine AList.nil ?_
     exact ⟨k7, by omega, _, _, ⟨by omega, _, _, _, _, _, _, _, _, _, _, _, _, _, rfl, rfl, h⟩, IsPart.at [] [0, 1, 2, 3] base1 (H.c (H.c (H.c (H.c .nil)))) (E.c (E.c (E.c (E.c (E.c (E.c (E.c (E.c (E.c .nil)))))))))⟩
  ·
   have hb9 := hb
   try simp only [hS, hE, ne_eq] at hb
   first | rw [if_pos hb9] at h | rw [if_neg (Bool.eq_false_iff.1 hb9)] at h | rw [if_pos hb] at h | rw [if_neg hb] at h | (simp only [hb, hT, reduceIte] at h) | skip
   repeat (first | (rw [iN] at h; obtain ⟨_, h⟩ := h) | (rw [iP] at h; obtain ⟨_, h⟩ := h) | (simp only [bS] at h))
   refine AWp.exit ?_
   refine AWp.region ?_
   refine L.Y (Y.fa (off := 2) Try.underlying26 Y22) ?_
   refine L.S (S.ld Try.underlying22) ?_
   refine L.Y Y.mv ?_
   refine L.M (M.bs Try.underlying22 Y3) ?_
   refine L.S (S.ap (nn' := false) Try.underlying22 Y3) ?_
   refine L.Y (Y.fa (off := 2) Try.underlying26 Y22) ?_
   refine L.S (S.stb Y22) ?_
   refine AList.nil ?_
   refine W.kp [0, 2, 3, 4, 5, 6, 7, 8, 9, 32] ?_
   refine AWp.region ?_
   refine L.Y Y.mv ?_
   refine L.Y Y.bin ?_
   refine L.Y Y.asg ?_
   refine AList.nil ?_
   exact ⟨k7, by omega, _, _, ⟨by omega, _, _, _, _, _, _, _, _, _, _, _, rfl, rfl, h⟩, IsPart.at [] [0, 1, 2, 3] base1 (H.c (H.c (H.c (H.c .nil)))) (E.c (E.c (E.c (E.c (E.c (E.c (E.c .nil)))))))⟩
 ·
  have hb6 := hb
  try simp only [hS, hE, ne_eq] at hb
  first | rw [if_pos hb6] at h | rw [if_neg (Bool.eq_false_iff.1 hb6)] at h | rw [if_pos hb] at h | rw [if_neg hb] at h | (simp only [hb, hT, reduceIte] at h) | skip
  refine AWp.exit ?_
  refine AWp.seq ?_
  refine AWp.seq ?_
  refine AWp.region ?_
  refine L.Y Y.mv ?_
  refine L.Y Y.bin ?_
  refine AList.nil ?_
  refine W.cond (fun hb => ?_) (fun hb => ?_)
  ·
   have hb23 := hb
   try simp only [hS, hE, ne_eq] at hb
   first | rw [if_pos hb23] at h | rw [if_neg (Bool.eq_false_iff.1 hb23)] at h | rw [if_pos hb] at h | rw [if_neg hb] at h | (simp only [hb, hT, reduceIte] at h) | skip
   refine AWp.seq ?_
   refine AWp.region ?_
   refine L.Y Y.asg ?_
   refine L.Y Y.asg ?_
   refine AList.nil ?_
   refine AWp.seq ?_
   refine AWp.seq ?_
   refine AWp.region ?_
   refine L.Y Y.asg ?_
   refine AList.nil ?_
   refine AWp.block ?_
   refine AWp.loopI (fun kk e H => kk ≤ k4 ∧ ∃ (x3 : Int) (x4 : Int) (x10 : List Int) (x12 : Int) (x1001 : Int) (x1002 : Int) (x238000 : Int) (x238001 : Int) (x245000 : Int) (x245001 : Int) (x245002 : List Int), e = [(0, .ptr 0 0), (2, .ptr 1 0), (3, .lit (.int .i64 x3)), (4, .lit (.int .i64 x4)), (5, .ptr 2 0), (10, .own 3 x10.length), (11, .lit (.slice none 0 0)), (12, .lit (.int .i64 x12))] ∧ H = [.bx 65 [.row 1 s0_0.length false (ints .u8 s0_0), .lit (.int .i64 x1001), .lit (.int .u64 x1002)], .bx 26 [.lit (.int .i64 x238000), .lit (.int .i64 x238001), .lit (.slice none 0 0)], .bx 26 [.lit (.int .i64 x245000), .lit (.int .i64 x245001), .own 4 x245002.length], .sl 3 1 x10.length false (ints .i64 x10), .sl 3 1 x245002.length false (ints .i64 x245002)] ∧ spec_l1Cur_table.l2 kk x3 x4 x10 x12 s0_0 x1001 x1002 = some (r1, r2, r3, r4, r5)) (k := k4)
    ⟨_, _, ⟨Nat.le_refl _, _, _, _, _, _, _, _, _, _, _, _, rfl, rfl, h⟩, IsPart.at [(3, 1)] [0, 1, 2, 4, 3] base1 (H.c (H.c (H.c (H.c (H.c .nil))))) (E.c (E.c (E.c (E.c (E.c (E.c (E.c (E.c .nil))))))))⟩ ?_
   clear h
   rintro k24 e H ⟨hk25, x3, x4, x10, x12, x1001, x1002, x238000, x238001, x245000, x245001, x245002, rfl, rfl, h⟩
   cases k24 with
   | zero => exact absurd h (by simp [spec_l1Cur_table.l2])
   | succ k24 =>
   simp only [spec_l1Cur_table.l2] at h
   refine AWp.seq ?_
   refine AWp.seq ?_
   refine AWp.region ?_
   refine L.Y Y.mv ?_
   refine L.Y Y.mv ?_
   refine L.Y Y.bin ?_
   refine AList.nil ?_
   refine W.cond (fun hb => ?_) (fun hb => ?_)
   ·
    have hb26 := hb
    try simp only [hS, hE, ne_eq] at hb
    first | rw [if_pos hb26] at h | rw [if_neg (Bool.eq_false_iff.1 hb26)] at h | rw [if_pos hb] at h | rw [if_neg hb] at h | (simp only [hb, hT, reduceIte] at h) | skip
    refine AWp.skip ?_
    refine AWp.seq ?_
    refine AWp.block ?_
    refine AWp.region ?_
    refine L.Y Y.mv ?_
    refine L.Y Y.mv ?_
    replace h := Option.bind_eq_some_iff.1 h
    obtain ⟨⟨t260, t261, t262⟩, hc27, h⟩ := h
    dsimp only at h
    repeat (first | (rw [iN] at h; obtain ⟨_, h⟩ := h) | (rw [iP] at h; obtain ⟨_, h⟩ := h) | (simp only [bS] at h))
    refine L.C (C.callE (l := false) [0] Try.func53 (spec_l1Cur_pick.ac _ _ _ _ _ _ _ hc27) (H.c .nil) ?_)
    refine L.M (M.bs Try.underlying22 Y3) ?_
    refine L.S (S.ap (nn' := false) Try.underlying22 Y3) ?_
    refine L.Y Y.asg ?_
    refine AList.nil ?_
    refine W.kp [0, 2, 3, 4, 5, 10, 11, 12, 64] ?_
    refine AWp.region ?_
    refine L.Y Y.mv ?_
    refine L.Y Y.bin ?_
    refine L.Y Y.asg ?_
    refine AList.nil ?_
    exact ⟨k24, by omega, _, _, ⟨by omega, _, _, _, _, _, _, _, _, _, _, _, rfl, rfl, h⟩, IsPart.at [] [0, 1, 2, 3, 4] base1 (H.c (H.c (H.c (H.c (H.c .nil))))) (E.c (E.c (E.c (E.c (E.c (E.c (E.c (E.c .nil))))))))⟩
   ·
    have hb26 := hb
    try simp only [hS, hE, ne_eq] at hb
    first | rw [if_pos hb26] at h | rw [if_neg (Bool.eq_false_iff.1 hb26)] at h | rw [if_pos hb] at h | rw [if_neg hb] at h | (simp only [hb, hT, reduceIte] at h) | skip
    refine AWp.exit ?_
    refine AWp.seq ?_
    refine AWp.seq ?_
    refine AWp.region ?_
    refine L.Y Y.asg ?_
    refine AList.nil ?_
    refine AWp.block ?_
    refine AWp.loopI (fun kk e H => kk ≤ k24 ∧ ∃ (x3 : Int) (x4 : Int) (x10 : List Int) (x11 : List Int) (x13 : Int) (x1001 : Int) (x1002 : Int) (x238000 : Int) (x238001 : Int) (x245000 : Int) (x245001 : Int) (x245002 : List Int), e = [(0, .ptr 0 0), (2, .ptr 1 0), (3, .lit (.int .i64 x3)), (4, .lit (.int .i64 x4)), (5, .ptr 2 0), (10, .own 3 x10.length), (11, .own 4 x11.length), (13, .lit (.int .i64 x13))] ∧ H = [.bx 65 [.row 1 s0_0.length false (ints .u8 s0_0), .lit (.int .i64 x1001), .lit (.int .u64 x1002)], .bx 26 [.lit (.int .i64 x238000), .lit (.int .i64 x238001), .lit (.slice none 0 0)], .bx 26 [.lit (.int .i64 x245000), .lit (.int .i64 x245001), .own 5 x245002.length], .sl 3 1 x10.length false (ints .i64 x10), .sl 3 1 x11.length false (ints .i64 x11), .sl 3 1 x245002.length false (ints .i64 x245002)] ∧ spec_l1Cur_table.l3 kk x3 x4 x10 x11 x13 s0_0 x1001 x1002 = some (r1, r2, r3, r4, r5)) (k := k24)
     ⟨_, _, ⟨Nat.le_refl _, _, _, _, _, _, _, _, _, _, _, _, _, rfl, rfl, h⟩, IsPart.at [(3, 1)] [0, 1, 2, 3, 5, 4] base1 (H.c (H.c (H.c (H.c (H.c (H.c .nil)))))) (E.c (E.c (E.c (E.c (E.c (E.c (E.c (E.c .nil))))))))⟩ ?_
    clear h
    rintro k28 e H ⟨hk29, x3, x4, x10, x11, x13, x1001, x1002, x238000, x238001, x245000, x245001, x245002, rfl, rfl, h⟩
    cases k28 with
    | zero => exact absurd h (by simp [spec_l1Cur_table.l3])
    | succ k28 =>
    simp only [spec_l1Cur_table.l3] at h
    refine AWp.seq ?_
    refine AWp.seq ?_
    refine AWp.region ?_
    refine L.Y Y.mv ?_
    refine L.Y Y.mv ?_
    refine L.Y Y.bin ?_
    refine AList.nil ?_
    refine W.cond (fun hb => ?_) (fun hb => ?_)
    ·
     have hb30 := hb
     try simp only [hS, hE, ne_eq] at hb
     first | rw [if_pos hb30] at h | rw [if_neg (Bool.eq_false_iff.1 hb30)] at h | rw [if_pos hb] at h | rw [if_neg hb] at h | (simp only [hb, hT, reduceIte] at h) | skip
     refine AWp.skip ?_
     refine AWp.seq ?_
     refine AWp.block ?_
     refine AWp.region ?_
     refine L.Y Y.mv ?_
     refine L.Y Y.mv ?_
     replace h := Option.bind_eq_some_iff.1 h
     obtain ⟨⟨t266, t267, t268⟩, hc31, h⟩ := h
     dsimp only at h
     repeat (first | (rw [iN] at h; obtain ⟨_, h⟩ := h) | (rw [iP] at h; obtain ⟨_, h⟩ := h) | (simp only [bS] at h))
     refine L.C (C.callE (l := false) [0] Try.func53 (spec_l1Cur_pick.ac _ _ _ _ _ _ _ hc31) (H.c .nil) ?_)
     refine L.M (M.bs Try.underlying22 Y3) ?_
     refine L.S (S.ap (nn' := false) Try.underlying22 Y3) ?_
     refine L.Y Y.asg ?_
     refine AList.nil ?_
     refine W.kp [0, 2, 3, 4, 5, 10, 11, 13, 74] ?_
     refine AWp.region ?_
     refine L.Y Y.mv ?_
     refine L.Y Y.bin ?_
     refine L.Y Y.asg ?_
     refine AList.nil ?_
     exact ⟨k28, by omega, _, _, ⟨by omega, _, _, _, _, _, _, _, _, _, _, _, _, rfl, rfl, h⟩, IsPart.at [] [0, 1, 2, 3, 4, 5] base1 (H.c (H.c (H.c (H.c (H.c (H.c .nil)))))) (E.c (E.c (E.c (E.c (E.c (E.c (E.c (E.c .nil))))))))⟩
    ·
     have hb30 := hb
     try simp only [hS, hE, ne_eq] at hb
     first | rw [if_pos hb30] at h | rw [if_neg (Bool.eq_false_iff.1 hb30)] at h | rw [if_pos hb] at h | rw [if_neg hb] at h | (simp only [hb, hT, reduceIte] at h) | skip
     refine AWp.exit ?_
     refine AWp.region ?_
     refine L.Y Y.mv ?_
     refine L.Y Y.mv ?_
     replace h := Option.bind_eq_some_iff.1 h
     obtain ⟨⟨t272, t273, t274, t277⟩, hc32, h⟩ := h
     dsimp only at h
     refine L.C (C.callE (l := true) [] Try.func29 (spec_TableOfScales.ac _ _ _ _ _ _ _ hc32) .nil ?_)
     refine L.Y Y.mv ?_
     refine L.Y Y.ex ?_
     refine L.Y Y.ex ?_
     refine L.S (S.stb Y26) ?_
     refine AList.nil ?_
     refine AWp.seq ?_
     refine AWp.seq ?_
     refine W.kp [0, 2, 3, 4, 5, 10, 11, 13, 74] ?_
     refine AWp.region ?_
     refine L.Y Y.mv ?_
     rcases k28 with _ | k28
     ·
      exact absurd h (by simp [spec_l1Cur_table.j4])
     simp only [spec_l1Cur_table.j4] at h
     replace h := Option.bind_eq_some_iff.1 h
     obtain ⟨⟨t278, t279, t280⟩, hc33, h⟩ := h
     dsimp only at h
     refine L.C (C.callE (l := false) [0] Try.func53 (spec_l1Cur_pick.ac _ _ _ _ _ _ _ hc33) (H.c .nil) ?_)
     refine AList.nil ?_
     refine AWp.block ?_
     refine AWp.seq ?_
     refine AWp.region ?_
     refine L.Y Y.bin ?_
     refine L.Y Y.asg ?_
     refine AList.nil ?_
     refine W.cond (fun hb => ?_) (fun hb => ?_)
     ·
      have hb34 := hb
      try simp only [hS, hE, ne_eq] at hb
      first | rw [if_pos hb34] at h | rw [if_neg (Bool.eq_false_iff.1 hb34)] at h | rw [if_pos hb] at h | rw [if_neg hb] at h | (simp only [hb, hT, reduceIte] at h) | skip
      repeat (first | (rw [iN] at h; obtain ⟨_, h⟩ := h) | (rw [iP] at h; obtain ⟨_, h⟩ := h) | (simp only [bS] at h))
      refine Dt.reg [true] [11] (.y 0 (.t 1 (.y 2 (.y 3 (.y 4 (.y 5 (.y 6 (.y 7 (.one 8 (.one 9 (.y 10 (.last 11 .done)))))))))))) HM ?_
      refine Dt.Y rfl wantN (Y.fa (off := 2) Try.underlying26 Y22) ?_
      refine Dt.T rfl wantN (D.ld Try.underlying22) ?_
      refine Dt.Y rfl wantN Y.mv ?_
      refine Dt.Y rfl wantN Y.mv ?_
      refine Dt.Y rfl wantN Y.bin ?_
      refine Dt.Y rfl wantN Y.mv ?_
      refine Dt.Y rfl wantN Y.bin ?_
      refine Dt.Y rfl wantN Y.bin ?_
      refine Dt.O (g' := false) rfl wantN ?_
      refine Ox.M (M.bs Try.underlying22 Y3) ?_
      refine Dt.O (g' := true) rfl wantN ?_
      replace h := Option.bind_eq_some_iff.1 h
      obtain ⟨⟨t284, t285, t286⟩, hc35, h⟩ := h
      dsimp only at h
      repeat (first | (rw [iN] at h; obtain ⟨_, h⟩ := h) | (rw [iP] at h; obtain ⟨_, h⟩ := h) | (simp only [bS] at h))
      refine Ox.frz (g' := true) 7 ?_
      refine Ox.C false [0] Try.func52 (spec_l1Cur_among.ac _ _ _ _ _ _ _ hc35) (H.c .nil) ?_
      refine Dt.Y rfl wantN (Y.ixo Try.underlying22 Y3) ?_
      refine Dt.L rfl wantN ?_
      refine Op.S (S.sts Y3) ?_
      refine Du.nil ?_
      refine AWp.seq ?_
      refine W.kp [0, 2, 3, 4, 5, 10, 11, 13, 74, 89, 90] ?_
      refine AWp.region ?_
      refine L.S (S.ldN Try.underlying26 Y26) ?_
      refine L.S (S.stb Y26) ?_
      refine AList.nil ?_
      simp only [Option.some.injEq, Prod.mk.injEq] at h
      obtain ⟨rfl, rfl, rfl, rfl, rfl⟩ := h
      refine AWp.ret ?_
      exact ⟨.inr rfl, _, _, _, Res.cl Try.underlying26 Y26, ⟨rfl, rfl⟩, PartV.at [] [0, 6] base1 (H.c (H.c .nil))⟩
     ·
      have hb34 := hb
      try simp only [hS, hE, ne_eq] at hb
      first | rw [if_pos hb34] at h | rw [if_neg (Bool.eq_false_iff.1 hb34)] at h | rw [if_pos hb] at h | rw [if_neg hb] at h | (simp only [hb, hT, reduceIte] at h) | skip
      refine AWp.seq ?_
      refine AWp.region ?_
      refine L.Y Y.bin ?_
      refine L.Y Y.asg ?_
      refine AList.nil ?_
      refine W.cond (fun hb => ?_) (fun hb => ?_)
      ·
       have hb36 := hb
       try simp only [hS, hE, ne_eq] at hb
       first | rw [if_pos hb36] at h | rw [if_neg (Bool.eq_false_iff.1 hb36)] at h | rw [if_pos hb] at h | rw [if_neg hb] at h | (simp only [hb, hT, reduceIte] at h) | skip
       repeat (first | (rw [iN] at h; obtain ⟨_, h⟩ := h) | (rw [iP] at h; obtain ⟨_, h⟩ := h) | (simp only [bS] at h))
       refine AWp.region ?_
       refine L.Y Y.mv ?_
       refine L.Y Y.mv ?_
       refine L.Y Y.bin ?_
       refine L.M (M.bs Try.underlying22 Y3) ?_
       replace h := Option.bind_eq_some_iff.1 h
       obtain ⟨⟨t291, t292, t293⟩, hc37, h⟩ := h
       dsimp only at h
       refine L.C ?_
       refine C.frz 7 ?_
       refine C.callE (l := false) [0] Try.func52 (spec_l1Cur_among.ac _ _ _ _ _ _ _ hc37) (H.c .nil) ?_
       refine L.Y (Y.fa (off := 0) Try.underlying26 Y3) ?_
       refine L.S (S.stb Y3) ?_
       refine AList.nil ?_
       refine AWp.seq ?_
       refine W.kp [0, 2, 3, 4, 5, 10, 11, 13, 74, 89, 90, 103] ?_
       refine AWp.region ?_
       refine L.S (S.ldN Try.underlying26 Y26) ?_
       refine L.S (S.stb Y26) ?_
       refine AList.nil ?_
       simp only [Option.some.injEq, Prod.mk.injEq] at h
       obtain ⟨rfl, rfl, rfl, rfl, rfl⟩ := h
       refine AWp.ret ?_
       exact ⟨.inr rfl, _, _, _, Res.cl Try.underlying26 Y26, ⟨rfl, rfl⟩, PartV.at [] [0, 6] base1 (H.c (H.c .nil))⟩
      ·
       have hb36 := hb
       try simp only [hS, hE, ne_eq] at hb
       first | rw [if_pos hb36] at h | rw [if_neg (Bool.eq_false_iff.1 hb36)] at h | rw [if_pos hb] at h | rw [if_neg hb] at h | (simp only [hb, hT, reduceIte] at h) | skip
       refine AWp.seq ?_
       refine AWp.region ?_
       refine L.Y Y.bin ?_
       refine L.Y Y.asg ?_
       refine AList.nil ?_
       refine W.cond (fun hb => ?_) (fun hb => ?_)
       ·
        have hb38 := hb
        try simp only [hS, hE, ne_eq] at hb
        first | rw [if_pos hb38] at h | rw [if_neg (Bool.eq_false_iff.1 hb38)] at h | rw [if_pos hb] at h | rw [if_neg hb] at h | (simp only [hb, hT, reduceIte] at h) | skip
        repeat (first | (rw [iN] at h; obtain ⟨_, h⟩ := h) | (rw [iP] at h; obtain ⟨_, h⟩ := h) | (simp only [bS] at h))
        refine W.kp [0, 2, 3, 4, 5, 10, 11, 13, 74, 89, 90, 103, 111] ?_
        refine AWp.region ?_
        refine L.Y Y.mv ?_
        refine L.Y Y.mv ?_
        refine L.Y Y.bin ?_
        refine L.M (M.bs Try.underlying22 Y3) ?_
        replace h := Option.bind_eq_some_iff.1 h
        obtain ⟨⟨t297, t298, t299⟩, hc39, h⟩ := h
        dsimp only at h
        refine L.C ?_
        refine C.frz 7 ?_
        refine C.callE (l := false) [0] Try.func52 (spec_l1Cur_among.ac _ _ _ _ _ _ _ hc39) (H.c .nil) ?_
        refine L.Y (Y.fa (off := 1) Try.underlying26 Y3) ?_
        refine L.S (S.stb Y3) ?_
        refine AList.nil ?_
        refine AWp.seq ?_
        refine W.kp [0, 2, 3, 4, 5, 10, 11, 13, 74, 89, 90, 103, 111] ?_
        refine AWp.region ?_
        refine L.S (S.ldN Try.underlying26 Y26) ?_
        refine L.S (S.stb Y26) ?_
        refine AList.nil ?_
        simp only [Option.some.injEq, Prod.mk.injEq] at h
        obtain ⟨rfl, rfl, rfl, rfl, rfl⟩ := h
        refine AWp.ret ?_
        exact ⟨.inr rfl, _, _, _, Res.cl Try.underlying26 Y26, ⟨rfl, rfl⟩, PartV.at [] [0, 6] base1 (H.c (H.c .nil))⟩
       ·
        have hb38 := hb
        try simp only [hS, hE, ne_eq] at hb
        first | rw [if_pos hb38] at h | rw [if_neg (Bool.eq_false_iff.1 hb38)] at h | rw [if_pos hb] at h | rw [if_neg hb] at h | (simp only [hb, hT, reduceIte] at h) | skip
        refine AWp.seq ?_
        refine W.kp [0, 2, 3, 4, 5, 10, 11, 13, 74, 89, 90, 103, 111] ?_
        refine AWp.region ?_
        refine L.Y Y.bin ?_
        refine L.Y Y.asg ?_
        refine AList.nil ?_
        refine W.cond (fun hb => ?_) (fun hb => ?_)
        ·
         have hb40 := hb
         try simp only [hS, hE, ne_eq] at hb
         first | rw [if_pos hb40] at h | rw [if_neg (Bool.eq_false_iff.1 hb40)] at h | rw [if_pos hb] at h | rw [if_neg hb] at h | (simp only [hb, hT, reduceIte] at h) | skip
         refine AWp.region ?_
         refine L.Y Y.mv ?_
         replace h := Option.bind_eq_some_iff.1 h
         obtain ⟨⟨t300, t301, t302⟩, hc41, h⟩ := h
         dsimp only at h
         repeat (first | (rw [iN] at h; obtain ⟨_, h⟩ := h) | (rw [iP] at h; obtain ⟨_, h⟩ := h) | (simp only [bS] at h))
         refine L.C (C.callE (l := false) [0] Try.func53 (spec_l1Cur_pick.ac _ _ _ _ _ _ _ hc41) (H.c .nil) ?_)
         refine L.M (M.bs Try.underlying22 Y3) ?_
         refine L.Y (Y.bd Try.underlying26 Y26 P26) ?_
         refine L.S (S.stb Y26) ?_
         refine AList.nil ?_
         refine AWp.seq ?_
         refine W.kp [0, 2, 3, 4, 5, 10, 11, 13, 74, 89, 90, 103, 111, 119] ?_
         refine AWp.region ?_
         refine L.S (S.ldN Try.underlying26 Y26) ?_
         refine L.S (S.stb Y26) ?_
         refine AList.nil ?_
         simp only [Option.some.injEq, Prod.mk.injEq] at h
         obtain ⟨rfl, rfl, rfl, rfl, rfl⟩ := h
         refine AWp.ret ?_
         exact ⟨.inr rfl, _, _, _, Res.cl Try.underlying26 Y26, ⟨rfl, rfl⟩, PartV.at [] [0, 7] base1 (H.c (H.c .nil))⟩
        ·
         have hb40 := hb
         try simp only [hS, hE, ne_eq] at hb
         first | rw [if_pos hb40] at h | rw [if_neg (Bool.eq_false_iff.1 hb40)] at h | rw [if_pos hb] at h | rw [if_neg hb] at h | (simp only [hb, hT, reduceIte] at h) | skip
         refine AWp.skip ?_
         refine AWp.seq ?_
         refine AWp.region ?_
         refine L.S (S.ldN Try.underlying26 Y26) ?_
         refine L.S (S.stb Y26) ?_
         refine AList.nil ?_
         simp only [Option.some.injEq, Prod.mk.injEq] at h
         obtain ⟨rfl, rfl, rfl, rfl, rfl⟩ := h
         refine AWp.ret ?_
         exact ⟨.inr rfl, _, _, _, Res.cl Try.underlying26 Y26, ⟨rfl, rfl⟩, PartV.at [] [0, 6] base1 (H.c (H.c .nil))⟩
  ·
   have hb23 := hb
   try simp only [hS, hE, ne_eq] at hb
   first | rw [if_pos hb23] at h | rw [if_neg (Bool.eq_false_iff.1 hb23)] at h | rw [if_pos hb] at h | rw [if_neg hb] at h | (simp only [hb, hT, reduceIte] at h) | skip
   refine AWp.skip ?_
   refine AWp.seq ?_
   refine AWp.seq ?_
   refine AWp.region ?_
   refine L.Y Y.mv ?_
   rcases k4 with _ | k4
   ·
    exact absurd h (by simp [spec_l1Cur_table.j4])
   simp only [spec_l1Cur_table.j4] at h
   replace h := Option.bind_eq_some_iff.1 h
   obtain ⟨⟨t278, t279, t280⟩, hc42, h⟩ := h
   dsimp only at h
   refine L.C (C.callE (l := false) [0] Try.func53 (spec_l1Cur_pick.ac _ _ _ _ _ _ _ hc42) (H.c .nil) ?_)
   refine AList.nil ?_
   refine AWp.block ?_
   refine AWp.seq ?_
   refine W.kp [0, 2, 3, 4, 5, 6, 7, 27, 61, 89] ?_
   refine AWp.region ?_
   refine L.Y Y.bin ?_
   refine L.Y Y.asg ?_
   refine AList.nil ?_
   refine W.cond (fun hb => ?_) (fun hb => ?_)
   ·
    have hb43 := hb
    try simp only [hS, hE, ne_eq] at hb
    first | rw [if_pos hb43] at h | rw [if_neg (Bool.eq_false_iff.1 hb43)] at h | rw [if_pos hb] at h | rw [if_neg hb] at h | (simp only [hb, hT, reduceIte] at h) | skip
    repeat (first | (rw [iN] at h; obtain ⟨_, h⟩ := h) | (rw [iP] at h; obtain ⟨_, h⟩ := h) | (simp only [bS] at h))
    refine Dt.reg [true] [11] (.y 0 (.t 1 (.y 2 (.y 3 (.y 4 (.y 5 (.y 6 (.y 7 (.one 8 (.one 9 (.y 10 (.last 11 .done)))))))))))) HM ?_
    refine Dt.Y rfl wantN (Y.fa (off := 2) Try.underlying26 Y22) ?_
    refine Dt.T rfl wantN (D.ld Try.underlying22) ?_
    refine Dt.Y rfl wantN Y.mv ?_
    refine Dt.Y rfl wantN Y.mv ?_
    refine Dt.Y rfl wantN Y.bin ?_
    refine Dt.Y rfl wantN Y.mv ?_
    refine Dt.Y rfl wantN Y.bin ?_
    refine Dt.Y rfl wantN Y.bin ?_
    refine Dt.O (g' := false) rfl wantN ?_
    refine Ox.M (M.bs Try.underlying22 Y3) ?_
    refine Dt.O (g' := true) rfl wantN ?_
    replace h := Option.bind_eq_some_iff.1 h
    obtain ⟨⟨t284, t285, t286⟩, hc44, h⟩ := h
    dsimp only at h
    repeat (first | (rw [iN] at h; obtain ⟨_, h⟩ := h) | (rw [iP] at h; obtain ⟨_, h⟩ := h) | (simp only [bS] at h))
    refine Ox.frz (g' := true) 4 ?_
    refine Ox.C false [0] Try.func52 (spec_l1Cur_among.ac _ _ _ _ _ _ _ hc44) (H.c .nil) ?_
    refine Dt.Y rfl wantN (Y.ixo Try.underlying22 Y3) ?_
    refine Dt.L rfl wantN ?_
    refine Op.S (S.sts Y3) ?_
    refine Du.nil ?_
    refine AWp.seq ?_
    refine W.kp [0, 2, 3, 4, 5, 6, 7, 27, 61, 89, 90] ?_
    refine AWp.region ?_
    refine L.S (S.ldN Try.underlying26 Y26) ?_
    refine L.S (S.stb Y26) ?_
    refine AList.nil ?_
    simp only [Option.some.injEq, Prod.mk.injEq] at h
    obtain ⟨rfl, rfl, rfl, rfl, rfl⟩ := h
    refine AWp.ret ?_
    exact ⟨.inr rfl, _, _, _, Res.cl Try.underlying26 Y26, ⟨rfl, rfl⟩, PartV.at [] [0, 3] base1 (H.c (H.c .nil))⟩
   ·
    have hb43 := hb
    try simp only [hS, hE, ne_eq] at hb
    first | rw [if_pos hb43] at h | rw [if_neg (Bool.eq_false_iff.1 hb43)] at h | rw [if_pos hb] at h | rw [if_neg hb] at h | (simp only [hb, hT, reduceIte] at h) | skip
    refine AWp.seq ?_
    refine AWp.region ?_
    refine L.Y Y.bin ?_
    refine L.Y Y.asg ?_
    refine AList.nil ?_
    refine W.cond (fun hb => ?_) (fun hb => ?_)
    ·
     have hb45 := hb
     try simp only [hS, hE, ne_eq] at hb
     first | rw [if_pos hb45] at h | rw [if_neg (Bool.eq_false_iff.1 hb45)] at h | rw [if_pos hb] at h | rw [if_neg hb] at h | (simp only [hb, hT, reduceIte] at h) | skip
     repeat (first | (rw [iN] at h; obtain ⟨_, h⟩ := h) | (rw [iP] at h; obtain ⟨_, h⟩ := h) | (simp only [bS] at h))
     refine AWp.region ?_
     refine L.Y Y.mv ?_
     refine L.Y Y.mv ?_
     refine L.Y Y.bin ?_
     refine L.M (M.bs Try.underlying22 Y3) ?_
     replace h := Option.bind_eq_some_iff.1 h
     obtain ⟨⟨t291, t292, t293⟩, hc46, h⟩ := h
     dsimp only at h
     refine L.C ?_
     refine C.frz 4 ?_
     refine C.callE (l := false) [0] Try.func52 (spec_l1Cur_among.ac _ _ _ _ _ _ _ hc46) (H.c .nil) ?_
     refine L.Y (Y.fa (off := 0) Try.underlying26 Y3) ?_
     refine L.S (S.stb Y3) ?_
     refine AList.nil ?_
     refine AWp.seq ?_
     refine W.kp [0, 2, 3, 4, 5, 6, 7, 27, 61, 89, 90, 103] ?_
     refine AWp.region ?_
     refine L.S (S.ldN Try.underlying26 Y26) ?_
     refine L.S (S.stb Y26) ?_
     refine AList.nil ?_
     simp only [Option.some.injEq, Prod.mk.injEq] at h
     obtain ⟨rfl, rfl, rfl, rfl, rfl⟩ := h
     refine AWp.ret ?_
     exact ⟨.inr rfl, _, _, _, Res.cl Try.underlying26 Y26, ⟨rfl, rfl⟩, PartV.at [] [0, 3] base1 (H.c (H.c .nil))⟩
    ·
     have hb45 := hb
     try simp only [hS, hE, ne_eq] at hb
     first | rw [if_pos hb45] at h | rw [if_neg (Bool.eq_false_iff.1 hb45)] at h | rw [if_pos hb] at h | rw [if_neg hb] at h | (simp only [hb, hT, reduceIte] at h) | skip
     refine AWp.seq ?_
     refine AWp.region ?_
     refine L.Y Y.bin ?_
     refine L.Y Y.asg ?_
     refine AList.nil ?_
     refine W.cond (fun hb => ?_) (fun hb => ?_)
     ·
      have hb47 := hb
      try simp only [hS, hE, ne_eq] at hb
      first | rw [if_pos hb47] at h | rw [if_neg (Bool.eq_false_iff.1 hb47)] at h | rw [if_pos hb] at h | rw [if_neg hb] at h | (simp only [hb, hT, reduceIte] at h) | skip
      repeat (first | (rw [iN] at h; obtain ⟨_, h⟩ := h) | (rw [iP] at h; obtain ⟨_, h⟩ := h) | (simp only [bS] at h))
      refine AWp.region ?_
      refine L.Y Y.mv ?_
      refine L.Y Y.mv ?_
      refine L.Y Y.bin ?_
      refine L.M (M.bs Try.underlying22 Y3) ?_
      replace h := Option.bind_eq_some_iff.1 h
      obtain ⟨⟨t297, t298, t299⟩, hc48, h⟩ := h
      dsimp only at h
      refine L.C ?_
      refine C.frz 4 ?_
      refine C.callE (l := false) [0] Try.func52 (spec_l1Cur_among.ac _ _ _ _ _ _ _ hc48) (H.c .nil) ?_
      refine L.Y (Y.fa (off := 1) Try.underlying26 Y3) ?_
      refine L.S (S.stb Y3) ?_
      refine AList.nil ?_
      refine AWp.seq ?_
      refine W.kp [0, 2, 3, 4, 5, 6, 7, 27, 61, 89, 90, 103, 111] ?_
      refine AWp.region ?_
      refine L.S (S.ldN Try.underlying26 Y26) ?_
      refine L.S (S.stb Y26) ?_
      refine AList.nil ?_
      simp only [Option.some.injEq, Prod.mk.injEq] at h
      obtain ⟨rfl, rfl, rfl, rfl, rfl⟩ := h
      refine AWp.ret ?_
      exact ⟨.inr rfl, _, _, _, Res.cl Try.underlying26 Y26, ⟨rfl, rfl⟩, PartV.at [] [0, 3] base1 (H.c (H.c .nil))⟩
     ·
      have hb47 := hb
      try simp only [hS, hE, ne_eq] at hb
      first | rw [if_pos hb47] at h | rw [if_neg (Bool.eq_false_iff.1 hb47)] at h | rw [if_pos hb] at h | rw [if_neg hb] at h | (simp only [hb, hT, reduceIte] at h) | skip
      refine AWp.seq ?_
      refine AWp.region ?_
      refine L.Y Y.bin ?_
      refine L.Y Y.asg ?_
      refine AList.nil ?_
      refine W.cond (fun hb => ?_) (fun hb => ?_)
      ·
       have hb49 := hb
       try simp only [hS, hE, ne_eq] at hb
       first | rw [if_pos hb49] at h | rw [if_neg (Bool.eq_false_iff.1 hb49)] at h | rw [if_pos hb] at h | rw [if_neg hb] at h | (simp only [hb, hT, reduceIte] at h) | skip
       refine W.kp [0, 2, 3, 4, 5, 6, 7, 27, 61, 89, 90, 103, 111, 119] ?_
       refine AWp.region ?_
       refine L.Y Y.mv ?_
       replace h := Option.bind_eq_some_iff.1 h
       obtain ⟨⟨t300, t301, t302⟩, hc50, h⟩ := h
       dsimp only at h
       repeat (first | (rw [iN] at h; obtain ⟨_, h⟩ := h) | (rw [iP] at h; obtain ⟨_, h⟩ := h) | (simp only [bS] at h))
       refine L.C (C.callE (l := false) [0] Try.func53 (spec_l1Cur_pick.ac _ _ _ _ _ _ _ hc50) (H.c .nil) ?_)
       refine L.M (M.bs Try.underlying22 Y3) ?_
       refine L.Y (Y.bd Try.underlying26 Y26 P26) ?_
       refine L.S (S.stb Y26) ?_
       refine AList.nil ?_
       refine AWp.seq ?_
       refine W.kp [0, 2, 3, 4, 5, 6, 7, 27, 61, 89, 90, 103, 111, 119] ?_
       refine AWp.region ?_
       refine L.S (S.ldN Try.underlying26 Y26) ?_
       refine L.S (S.stb Y26) ?_
       refine AList.nil ?_
       simp only [Option.some.injEq, Prod.mk.injEq] at h
       obtain ⟨rfl, rfl, rfl, rfl, rfl⟩ := h
       refine AWp.ret ?_
       exact ⟨.inr rfl, _, _, _, Res.cl Try.underlying26 Y26, ⟨rfl, rfl⟩, PartV.at [] [0, 4] base1 (H.c (H.c .nil))⟩
      ·
       have hb49 := hb
       try simp only [hS, hE, ne_eq] at hb
       first | rw [if_pos hb49] at h | rw [if_neg (Bool.eq_false_iff.1 hb49)] at h | rw [if_pos hb] at h | rw [if_neg hb] at h | (simp only [hb, hT, reduceIte] at h) | skip
       refine AWp.skip ?_
       refine AWp.seq ?_
       refine W.kp [0, 2, 3, 4, 5, 6, 7, 27, 61, 89, 90, 103, 111, 119] ?_
       refine AWp.region ?_
       refine L.S (S.ldN Try.underlying26 Y26) ?_
       refine L.S (S.stb Y26) ?_
       refine AList.nil ?_
       simp only [Option.some.injEq, Prod.mk.injEq] at h
       obtain ⟨rfl, rfl, rfl, rfl, rfl⟩ := h
       refine AWp.ret ?_
       exact ⟨.inr rfl, _, _, _, Res.cl Try.underlying26 Y26, ⟨rfl, rfl⟩, PartV.at [] [0, 3] base1 (H.c (H.c .nil))⟩

end Go.Proofs.Ytakabmokpknknaa.PFnBiordersHaveScales
