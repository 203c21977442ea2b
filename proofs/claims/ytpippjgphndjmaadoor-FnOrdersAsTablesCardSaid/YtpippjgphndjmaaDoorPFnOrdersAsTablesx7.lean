-- Written by a program of this session's (wip/myprint2): the functions by the kit's print, the walks by awgen.py. Lean checks it.
import Derived.Test.YtpippjgphndjmaaDoorPFnOrdersAsTablesx0
import Derived.Test.YtpippjgphndjmaaDoorPFnOrdersAsTablesx2
import Derived.Test.YtpippjgphndjmaaDoorPFnOrdersAsTablesx4
import Derived.Test.YtpippjgphndjmaaDoorPFnOrdersAsTablesx5
import Derived.Test.YtpippjgphndjmaaDoorPFnOrdersAsTablesx6
namespace Go.Proofs.YtpippjgphndjmaaDoor.PFnOrdersAsTables
open Go.RowKit Go.Proofs.YtpippjgphndjmaaDoorW.PrintWords Go.Proofs.YtpippjgphndjmaaDoorW.PrintLast Go.Proofs.YtpippjgphndjmaaDoorW.PrintMore Go.Proofs.YtpippjgphndjmaaDoorM Go.Proofs.YtpippjgphndjmaaDoorA Go.Proofs.YtpippjgphndjmaaDoorT
attribute [local go_sem] max2_int min2_int max_two min_two max_three min_three max_four min_four   -- for this text's walks alone
set_option linter.unusedVariables false
set_option linter.unusedSimpArgs false

/-! ### spec_l1Least: function 79 -/
def spec_l1Least.f (a0 : Int) (a1 : Int) : Option (Int) := if a0 < a1 then (some a0) else (some a1)
set_option maxRecDepth 100000 in
set_option maxHeartbeats 20000000 in
theorem spec_l1Least.ac (a0 : Int) (a1 : Int) (r : Int) (h : spec_l1Least.f a0 a1 = some r) :
  ACalls Tryd.prog 79 [.lit (.int .i64 a0), .lit (.int .i64 a1)] [] (fun v H' => v = .lit (.int .i64 r) ∧ H' = []) := by
 refine ACalls.ofP [4] Tryd.func79 rfl (by exact Nat.le_of_ble_eq_true rfl) rfl (by decide) ?_
 simp only [Tryd.ntmps79, env0, spec_l1Least.f] at h ⊢
 refine AWp.seq ?_
 refine AWp.region ?_
 refine L.Y Y.asg ?_
 refine AList.nil ?_
 refine AWp.seq ?_
 refine AWp.seq ?_
 refine AWp.region ?_
 refine L.Y Y.mv ?_
 refine L.Y Y.mv ?_
 refine L.Y Y.bin ?_
 refine AList.nil ?_
 refine W.cond (fun hb => ?_) (fun hb => ?_)
 ·
  have hb1 := hb
  try simp only [hS, hE, ne_eq] at hb
  first | rw [if_pos hb1] at h | rw [if_neg (Bool.eq_false_iff.1 hb1)] at h | rw [if_pos hb] at h | rw [if_neg hb] at h | (simp only [hb, hT, reduceIte] at h) | skip
  refine AWp.seq ?_
  refine AWp.region ?_
  refine L.Y Y.mv ?_
  refine L.Y Y.asg ?_
  refine AList.nil ?_
  obtain rfl := Option.some.inj h
  refine AWp.ret ?_
  exact ⟨.inr rfl, [(4, _)], _, ⟨rfl, rfl⟩, IsPart.at [] [] base0 .nil (E.c .nil)⟩
 ·
  have hb1 := hb
  try simp only [hS, hE, ne_eq] at hb
  first | rw [if_pos hb1] at h | rw [if_neg (Bool.eq_false_iff.1 hb1)] at h | rw [if_pos hb] at h | rw [if_neg hb] at h | (simp only [hb, hT, reduceIte] at h) | skip
  refine AWp.skip ?_
  refine AWp.seq ?_
  refine AWp.region ?_
  refine L.Y Y.mv ?_
  refine L.Y Y.asg ?_
  refine AList.nil ?_
  obtain rfl := Option.some.inj h
  refine AWp.ret ?_
  exact ⟨.inr rfl, [(4, _)], _, ⟨rfl, rfl⟩, IsPart.at [] [] base0 .nil (E.c .nil)⟩

/-! ### spec_l1Most: function 78 -/
def spec_l1Most.f (a0 : Int) (a1 : Int) : Option (Int) := if a0 > a1 then (some a0) else (some a1)
set_option maxRecDepth 100000 in
set_option maxHeartbeats 20000000 in
theorem spec_l1Most.ac (a0 : Int) (a1 : Int) (r : Int) (h : spec_l1Most.f a0 a1 = some r) :
  ACalls Tryd.prog 78 [.lit (.int .i64 a0), .lit (.int .i64 a1)] [] (fun v H' => v = .lit (.int .i64 r) ∧ H' = []) := by
 refine ACalls.ofP [4] Tryd.func78 rfl (by exact Nat.le_of_ble_eq_true rfl) rfl (by decide) ?_
 simp only [Tryd.ntmps78, env0, spec_l1Most.f] at h ⊢
 refine AWp.seq ?_
 refine AWp.region ?_
 refine L.Y Y.asg ?_
 refine AList.nil ?_
 refine AWp.seq ?_
 refine AWp.seq ?_
 refine AWp.region ?_
 refine L.Y Y.mv ?_
 refine L.Y Y.mv ?_
 refine L.Y Y.bin ?_
 refine AList.nil ?_
 refine W.cond (fun hb => ?_) (fun hb => ?_)
 ·
  have hb1 := hb
  try simp only [hS, hE, ne_eq] at hb
  first | rw [if_pos hb1] at h | rw [if_neg (Bool.eq_false_iff.1 hb1)] at h | rw [if_pos hb] at h | rw [if_neg hb] at h | (simp only [hb, hT, reduceIte] at h) | skip
  refine AWp.seq ?_
  refine AWp.region ?_
  refine L.Y Y.mv ?_
  refine L.Y Y.asg ?_
  refine AList.nil ?_
  obtain rfl := Option.some.inj h
  refine AWp.ret ?_
  exact ⟨.inr rfl, [(4, _)], _, ⟨rfl, rfl⟩, IsPart.at [] [] base0 .nil (E.c .nil)⟩
 ·
  have hb1 := hb
  try simp only [hS, hE, ne_eq] at hb
  first | rw [if_pos hb1] at h | rw [if_neg (Bool.eq_false_iff.1 hb1)] at h | rw [if_pos hb] at h | rw [if_neg hb] at h | (simp only [hb, hT, reduceIte] at h) | skip
  refine AWp.skip ?_
  refine AWp.seq ?_
  refine AWp.region ?_
  refine L.Y Y.mv ?_
  refine L.Y Y.asg ?_
  refine AList.nil ?_
  obtain rfl := Option.some.inj h
  refine AWp.ret ?_
  exact ⟨.inr rfl, [(4, _)], _, ⟨rfl, rfl⟩, IsPart.at [] [] base0 .nil (E.c .nil)⟩

/-! ### spec_l1Cur_element: function 97 -/
def spec_l1Cur_element.f (s0_0 : List Int) (s0_1 : Int) (s0_2 : Int) (a1_0 : Int) (l1_1 : List Int) : Option (Int × Int × Int) := (spec_l1Cur_one.f s0_0 s0_1 s0_2 10).bind fun bt321 => (if bt321.1 = true then ((spec_l1Cur_among.f s0_0 bt321.2.1 bt321.2.2 (([(-1), a1_0, 62, 64] : List Int))).bind fun bt327 => (some (bt327.1, bt327.2.1, bt327.2.2))) else ((spec_l1Least.f a1_0 10).bind fun t330 => ((spec_l1Most.f 1 t330).bind fun t331 => ((spec_l1Cur_pick.f s0_0 bt321.2.1 bt321.2.2 t331).bind fun bt332 => (some (bt332.1, bt332.2.1, bt332.2.2))))))
set_option maxRecDepth 100000 in
set_option maxHeartbeats 20000000 in
theorem spec_l1Cur_element.ac (s0_0 : List Int) (s0_1 : Int) (s0_2 : Int) (a1_0 : Int) (l1_1 : List Int) (r1 : Int) (r2 : Int) (r3 : Int) (h : spec_l1Cur_element.f s0_0 s0_1 s0_2 a1_0 l1_1 = some (r1, r2, r3)) :
  ACalls Tryd.prog 97 [.ptr 0 0, .agg [.lit (.int .i64 a1_0), .row 1 l1_1.length false (ints .i64 l1_1)]] [.bx 82 [.row 1 s0_0.length false (ints .u8 s0_0), .lit (.int .i64 s0_1), .lit (.int .u64 s0_2)]] (fun v H' => v = .lit (.int .i64 r1) ∧ H' = [.bx 82 [.row 1 s0_0.length false (ints .u8 s0_0), .lit (.int .i64 r2), .lit (.int .u64 r3)]]) := by
 refine ACalls.ofP [4] Tryd.func97 rfl (by exact Nat.le_of_ble_eq_true rfl) rfl (by decide) ?_
 simp only [Tryd.ntmps97, env0, spec_l1Cur_element.f] at h ⊢
 refine AWp.seq ?_
 refine AWp.region ?_
 refine L.M M.bx ?_
 refine L.Y Y.asg ?_
 refine AList.nil ?_
 refine AWp.seq ?_
 refine AWp.seq ?_
 refine AWp.region ?_
 refine L.Y Y.mv ?_
 replace h := Option.bind_eq_some_iff.1 h
 obtain ⟨⟨t321, t322, t323⟩, hc1, h⟩ := h
 dsimp only at h
 refine L.C (C.callE (l := false) [0] Tryd.func76 (spec_l1Cur_one.ac _ _ _ _ _ _ _ hc1) (H.c .nil) ?_)
 refine AList.nil ?_
 refine W.cond (fun hb => ?_) (fun hb => ?_)
 ·
  have hb2 := hb
  try simp only [hS, hE, ne_eq] at hb
  first | rw [if_pos hb2] at h | rw [if_neg (Bool.eq_false_iff.1 hb2)] at h | rw [if_pos hb] at h | rw [if_neg hb] at h | (simp only [hb, hT, reduceIte] at h) | skip
  repeat (first | (rw [iN] at h; obtain ⟨_, h⟩ := h) | (rw [iP] at h; obtain ⟨_, h⟩ := h) | (simp only [bS] at h))
  refine AWp.seq ?_
  refine AWp.region ?_
  refine L.Y Y.mv ?_
  refine L.Y (Y.fa (off := 0) Tryd.underlying30 Y3) ?_
  refine L.S (S.ld Tryd.underlying3) ?_
  refine L.M (M.bs Tryd.underlying22 Y3) ?_
  replace h := Option.bind_eq_some_iff.1 h
  obtain ⟨⟨t327, t328, t329⟩, hc3, h⟩ := h
  dsimp only at h
  refine L.C ?_
  refine C.frz 2 ?_
  refine C.callE (l := false) [0] Tryd.func81 (spec_l1Cur_among.ac _ _ _ _ _ _ _ hc3) (H.c .nil) ?_
  refine L.Y Y.asg ?_
  refine AList.nil ?_
  simp only [Option.some.injEq, Prod.mk.injEq] at h
  obtain ⟨rfl, rfl, rfl⟩ := h
  refine AWp.ret ?_
  exact ⟨.inr rfl, [(4, _)], _, ⟨rfl, rfl⟩, IsPart.at [] [0] base1 (H.c .nil) (E.c .nil)⟩
 ·
  have hb2 := hb
  try simp only [hS, hE, ne_eq] at hb
  first | rw [if_pos hb2] at h | rw [if_neg (Bool.eq_false_iff.1 hb2)] at h | rw [if_pos hb] at h | rw [if_neg hb] at h | (simp only [hb, hT, reduceIte] at h) | skip
  refine AWp.skip ?_
  refine AWp.seq ?_
  refine AWp.region ?_
  refine L.Y Y.mv ?_
  refine L.Y (Y.fa (off := 0) Tryd.underlying30 Y3) ?_
  refine L.S (S.ld Tryd.underlying3) ?_
  replace h := Option.bind_eq_some_iff.1 h
  obtain ⟨t330, hc4, h⟩ := h
  refine L.C (C.callE (l := true) [] Tryd.func79 (spec_l1Least.ac _ _ _ hc4) .nil ?_)
  replace h := Option.bind_eq_some_iff.1 h
  obtain ⟨t331, hc5, h⟩ := h
  refine L.C (C.callE (l := true) [] Tryd.func78 (spec_l1Most.ac _ _ _ hc5) .nil ?_)
  replace h := Option.bind_eq_some_iff.1 h
  obtain ⟨⟨t332, t333, t334⟩, hc6, h⟩ := h
  dsimp only at h
  refine L.C (C.callE (l := false) [0] Tryd.func80 (spec_l1Cur_pick.ac _ _ _ _ _ _ _ hc6) (H.c .nil) ?_)
  refine L.Y Y.asg ?_
  refine AList.nil ?_
  simp only [Option.some.injEq, Prod.mk.injEq] at h
  obtain ⟨rfl, rfl, rfl⟩ := h
  refine AWp.ret ?_
  exact ⟨.inr rfl, [(4, _)], _, ⟨rfl, rfl⟩, IsPart.at [] [0] base1 (H.c .nil) (E.c .nil)⟩

/-! ### spec_DrawTableOfOrder: function 38 -/
def spec_DrawTableOfOrder.l0 : Nat → List Int → List Int → Int → List Int → Int → Int → Int → List Int → Option (Int × List Int × List Int × List Int)
 | 0, _, _, _, _, _, _, _, _ => none
 | k + 1, x7, x8, x9, x337000, x337001, x337002, x344000, x344001 => (spec_l1Least.f x344000 11).bind fun t344 => (if x9 < t344 then ((spec_l1Cur_one.f x337000 x337001 x337002 4).bind fun bt345 => (if bt345.1 = true then ((spec_l1Cur_one.f x337000 bt345.2.1 bt345.2.2 4).bind fun bt348 => (if bt348.1 = true then (spec_DrawTableOfOrder.l0 k x7 x8 (wrap64 (x9 + 1)) x337000 bt348.2.1 bt348.2.2 x344000 x344001) else (if x8.length < 17592186044416 then (spec_DrawTableOfOrder.l0 k x7 (x8 ++ [x9]) (wrap64 (x9 + 1)) x337000 bt348.2.1 bt348.2.2 x344000 x344001) else (none)))) else (if x7.length < 17592186044416 then ((some (x7 ++ [x9] : List Int)).bind fun y354 => ((spec_l1Cur_one.f x337000 bt345.2.1 bt345.2.2 4).bind fun bt357 => (if bt357.1 = true then (spec_DrawTableOfOrder.l0 k y354 x8 (wrap64 (x9 + 1)) x337000 bt357.2.1 bt357.2.2 x344000 x344001) else (if x8.length < 17592186044416 then (spec_DrawTableOfOrder.l0 k y354 (x8 ++ [x9]) (wrap64 (x9 + 1)) x337000 bt357.2.1 bt357.2.2 x344000 x344001) else (none))))) else (none)))) else ((spec_l1Cur_one.f x337000 x337001 x337002 15).bind fun bt363 => (if bt363.1 = true then ((spec_l1Cur_element.f x337000 bt363.2.1 bt363.2.2 x344000 x344001).bind fun bt366 => (if x7.length < 17592186044416 then (some (x344000, x344001, (x7 ++ [bt366.1]), x8)) else (none))) else (some (x344000, x344001, x7, x8)))))
def spec_DrawTableOfOrder.f (k : Nat) (l0 : List Int) : Option (Int × List Int × List Int × List Int) := (spec_l1Cur_anyOrder.f k l0 0 0 6).bind fun bt337 => (spec_DrawTableOfOrder.l0 k ([] : List Int) ([] : List Int) 0 l0 bt337.2.2.1 bt337.2.2.2 bt337.1 bt337.2.1)
set_option maxRecDepth 100000 in
set_option maxHeartbeats 20000000 in
theorem spec_DrawTableOfOrder.ac (k : Nat) (l0 : List Int) (r1 : Int) (r2 : List Int) (r3 : List Int) (r4 : List Int) (h : spec_DrawTableOfOrder.f k l0 = some (r1, r2, r3, r4)) :
  ACalls Tryd.prog 38 [.row 1 l0.length false (ints .u8 l0)] [] (fun v H' => v = .tup [.agg [.lit (.int .i64 r1), .row 1 r2.length false (ints .i64 r2)], .own 0 r3.length, .own 1 r4.length] ∧ H' = [.sl 3 1 r3.length false (ints .i64 r3), .sl 3 1 r4.length false (ints .i64 r4)]) := by
 refine ACalls.ofV Tryd.func38 rfl (by exact Nat.le_of_ble_eq_true rfl) ?_
 simp only [Tryd.ntmps38, env0, spec_DrawTableOfOrder.f] at h ⊢
 refine AWp.seq ?_
 refine AWp.region ?_
 refine L.M (M.al Y30) ?_
 refine L.Y Y.asg ?_
 refine L.Y Y.asg ?_
 refine AList.nil ?_
 refine AWp.seq ?_
 refine AWp.region ?_
 refine L.Y Y.mv ?_
 refine L.Y (Y.bd Tryd.underlying82 Y82 P82) ?_
 refine L.M M.bx ?_
 refine L.Y Y.asg ?_
 refine AList.nil ?_
 refine AWp.seq ?_
 refine AWp.region ?_
 refine L.Y Y.mv ?_
 replace h := Option.bind_eq_some_iff.1 h
 obtain ⟨⟨t337, t338, t341, t342⟩, hc1, h⟩ := h
 dsimp only at h
 refine L.C (C.callE (l := false) [1] Tryd.func75 (spec_l1Cur_anyOrder.ac _ _ _ _ _ _ _ _ _ hc1) (H.c .nil) ?_)
 refine L.M (M.al Y30) ?_
 refine L.S (S.stb Y30) ?_
 refine AList.nil ?_
 refine AWp.seq ?_
 refine W.kp [0, 2, 3, 4, 5, 6] ?_
 refine AWp.region ?_
 refine L.Y Y.asg ?_
 refine L.Y Y.asg ?_
 refine AList.nil ?_
 refine AWp.seq ?_
 refine AWp.seq ?_
 refine AWp.region ?_
 refine L.Y Y.asg ?_
 refine AList.nil ?_
 refine AWp.block ?_
 refine AWp.loopI (fun kk e H => kk ≤ k ∧ ∃ (x7 : List Int) (x8 : List Int) (x9 : Int) (x336000 : Int) (x337001 : Int) (x337002 : Int) (x344000 : Int) (x344001 : List Int), e = [(2, .ptr 0 0), (3, .lit (.slice none 0 0)), (4, .lit (.slice none 0 0)), (5, .ptr 1 0), (6, .ptr 2 0), (7, .own 3 x7.length), (8, .own 4 x8.length), (9, .lit (.int .i64 x9))] ∧ H = [.bx 30 [.lit (.int .i64 x336000), .lit (.slice none 0 0)], .bx 82 [.row 1 l0.length false (ints .u8 l0), .lit (.int .i64 x337001), .lit (.int .u64 x337002)], .bx 30 [.lit (.int .i64 x344000), .own 5 x344001.length], .sl 3 1 x7.length false (ints .i64 x7), .sl 3 1 x8.length false (ints .i64 x8), .sl 3 1 x344001.length false (ints .i64 x344001)] ∧ spec_DrawTableOfOrder.l0 kk x7 x8 x9 l0 x337001 x337002 x344000 x344001 = some (r1, r2, r3, r4)) (k := k)
  ⟨_, _, ⟨Nat.le_refl _, _, _, _, _, _, _, _, _, rfl, rfl, h⟩, IsPart.at [(3, 1), (3, 1)] [0, 1, 3, 4, 5, 2] base0 (H.c (H.c (H.c (H.c (H.c (H.c .nil)))))) (E.c (E.c (E.c (E.c (E.c (E.c (E.c (E.c .nil))))))))⟩ ?_
 clear h
 rintro k2 e H ⟨hk3, x7, x8, x9, x336000, x337001, x337002, x344000, x344001, rfl, rfl, h⟩
 cases k2 with
 | zero => exact absurd h (by simp [spec_DrawTableOfOrder.l0])
 | succ k2 =>
 simp only [spec_DrawTableOfOrder.l0] at h
 refine AWp.seq ?_
 refine AWp.seq ?_
 refine AWp.region ?_
 refine L.Y Y.mv ?_
 refine L.Y (Y.fa (off := 0) Tryd.underlying30 Y3) ?_
 refine L.S (S.ld Tryd.underlying3) ?_
 replace h := Option.bind_eq_some_iff.1 h
 obtain ⟨t344, hc4, h⟩ := h
 refine L.C (C.callE (l := true) [] Tryd.func79 (spec_l1Least.ac _ _ _ hc4) .nil ?_)
 refine L.Y Y.bin ?_
 refine AList.nil ?_
 refine W.cond (fun hb => ?_) (fun hb => ?_)
 ·
  have hb5 := hb
  try simp only [hS, hE, ne_eq] at hb
  first | rw [if_pos hb5] at h | rw [if_neg (Bool.eq_false_iff.1 hb5)] at h | rw [if_pos hb] at h | rw [if_neg hb] at h | (simp only [hb, hT, reduceIte] at h) | skip
  refine AWp.skip ?_
  refine AWp.seq ?_
  refine AWp.block ?_
  refine AWp.seq ?_
  refine AWp.seq ?_
  refine W.kp [2, 3, 4, 5, 6, 7, 8, 9, 19] ?_
  refine AWp.region ?_
  refine L.Y Y.mv ?_
  replace h := Option.bind_eq_some_iff.1 h
  obtain ⟨⟨t345, t346, t347⟩, hc6, h⟩ := h
  dsimp only at h
  refine L.C (C.callE (l := false) [1] Tryd.func76 (spec_l1Cur_one.ac _ _ _ _ _ _ _ hc6) (H.c .nil) ?_)
  refine L.Y Y.nt ?_
  refine AList.nil ?_
  refine W.cond (fun hb => ?_) (fun hb => ?_)
  ·
   have hb7 := hb
   try simp only [hS, hE, ne_eq] at hb
   first | rw [if_pos hb7] at h | rw [if_neg (Bool.eq_false_iff.1 hb7)] at h | rw [if_pos hb] at h | rw [if_neg hb] at h | (simp only [hb, hT, reduceIte] at h) | skip
   repeat (first | (rw [iN] at h; obtain ⟨_, h⟩ := h) | (rw [iP] at h; obtain ⟨_, h⟩ := h) | (simp only [bS] at h))
   refine AWp.region ?_
   refine L.Y Y.mv ?_
   refine L.Y Y.mv ?_
   refine L.M (M.bs Tryd.underlying22 Y3) ?_
   refine L.S (S.ap (nn' := false) Tryd.underlying22 Y3) ?_
   refine L.Y Y.asg ?_
   refine AList.nil ?_
   refine AWp.seq ?_
   refine W.kp [2, 3, 4, 5, 6, 7, 8, 9, 19, 24] ?_
   refine AWp.region ?_
   refine L.Y Y.mv ?_
   replace h := Option.bind_eq_some_iff.1 h
   obtain ⟨⟨t357, t358, t359⟩, hc8, h⟩ := h
   dsimp only at h
   refine L.C (C.callE (l := false) [1] Tryd.func76 (spec_l1Cur_one.ac _ _ _ _ _ _ _ hc8) (H.c .nil) ?_)
   refine L.Y Y.nt ?_
   refine AList.nil ?_
   refine W.cond (fun hb => ?_) (fun hb => ?_)
   ·
    have hb9 := hb
    try simp only [hS, hE, ne_eq] at hb
    first | rw [if_pos hb9] at h | rw [if_neg (Bool.eq_false_iff.1 hb9)] at h | rw [if_pos hb] at h | rw [if_neg hb] at h | (simp only [hb, hT, reduceIte] at h) | skip
    repeat (first | (rw [iN] at h; obtain ⟨_, h⟩ := h) | (rw [iP] at h; obtain ⟨_, h⟩ := h) | (simp only [bS] at h))
    refine AWp.region ?_
    refine L.Y Y.mv ?_
    refine L.Y Y.mv ?_
    refine L.M (M.bs Tryd.underlying22 Y3) ?_
    refine L.S (S.ap (nn' := false) Tryd.underlying22 Y3) ?_
    refine L.Y Y.asg ?_
    refine AList.nil ?_
    refine W.kp [2, 3, 4, 5, 6, 7, 8, 9, 19, 24, 31] ?_
    refine AWp.region ?_
    refine L.Y Y.mv ?_
    refine L.Y Y.bin ?_
    refine L.Y Y.asg ?_
    refine AList.nil ?_
    exact ⟨k2, by omega, _, _, ⟨by omega, _, _, _, _, _, _, _, _, rfl, rfl, h⟩, IsPart.at [] [0, 1, 2, 3, 4, 5] base0 (H.c (H.c (H.c (H.c (H.c (H.c .nil)))))) (E.c (E.c (E.c (E.c (E.c (E.c (E.c (E.c .nil))))))))⟩
   ·
    have hb9 := hb
    try simp only [hS, hE, ne_eq] at hb
    first | rw [if_pos hb9] at h | rw [if_neg (Bool.eq_false_iff.1 hb9)] at h | rw [if_pos hb] at h | rw [if_neg hb] at h | (simp only [hb, hT, reduceIte] at h) | skip
    refine AWp.skip ?_
    refine AWp.region ?_
    refine L.Y Y.mv ?_
    refine L.Y Y.bin ?_
    refine L.Y Y.asg ?_
    refine AList.nil ?_
    exact ⟨k2, by omega, _, _, ⟨by omega, _, _, _, _, _, _, _, _, rfl, rfl, h⟩, IsPart.at [] [0, 1, 2, 3, 4, 5] base0 (H.c (H.c (H.c (H.c (H.c (H.c .nil)))))) (E.c (E.c (E.c (E.c (E.c (E.c (E.c (E.c .nil))))))))⟩
  ·
   have hb7 := hb
   try simp only [hS, hE, ne_eq] at hb
   first | rw [if_pos hb7] at h | rw [if_neg (Bool.eq_false_iff.1 hb7)] at h | rw [if_pos hb] at h | rw [if_neg hb] at h | (simp only [hb, hT, reduceIte] at h) | skip
   refine AWp.skip ?_
   refine AWp.seq ?_
   refine AWp.region ?_
   refine L.Y Y.mv ?_
   replace h := Option.bind_eq_some_iff.1 h
   obtain ⟨⟨t348, t349, t350⟩, hc10, h⟩ := h
   dsimp only at h
   refine L.C (C.callE (l := false) [1] Tryd.func76 (spec_l1Cur_one.ac _ _ _ _ _ _ _ hc10) (H.c .nil) ?_)
   refine L.Y Y.nt ?_
   refine AList.nil ?_
   refine W.cond (fun hb => ?_) (fun hb => ?_)
   ·
    have hb11 := hb
    try simp only [hS, hE, ne_eq] at hb
    first | rw [if_pos hb11] at h | rw [if_neg (Bool.eq_false_iff.1 hb11)] at h | rw [if_pos hb] at h | rw [if_neg hb] at h | (simp only [hb, hT, reduceIte] at h) | skip
    repeat (first | (rw [iN] at h; obtain ⟨_, h⟩ := h) | (rw [iP] at h; obtain ⟨_, h⟩ := h) | (simp only [bS] at h))
    refine W.kp [2, 3, 4, 5, 6, 7, 8, 9, 19, 24, 31] ?_
    refine AWp.region ?_
    refine L.Y Y.mv ?_
    refine L.Y Y.mv ?_
    refine L.M (M.bs Tryd.underlying22 Y3) ?_
    refine L.S (S.ap (nn' := false) Tryd.underlying22 Y3) ?_
    refine L.Y Y.asg ?_
    refine AList.nil ?_
    refine W.kp [2, 3, 4, 5, 6, 7, 8, 9, 19, 24, 31] ?_
    refine AWp.region ?_
    refine L.Y Y.mv ?_
    refine L.Y Y.bin ?_
    refine L.Y Y.asg ?_
    refine AList.nil ?_
    exact ⟨k2, by omega, _, _, ⟨by omega, _, _, _, _, _, _, _, _, rfl, rfl, h⟩, IsPart.at [] [0, 1, 2, 3, 4, 5] base0 (H.c (H.c (H.c (H.c (H.c (H.c .nil)))))) (E.c (E.c (E.c (E.c (E.c (E.c (E.c (E.c .nil))))))))⟩
   ·
    have hb11 := hb
    try simp only [hS, hE, ne_eq] at hb
    first | rw [if_pos hb11] at h | rw [if_neg (Bool.eq_false_iff.1 hb11)] at h | rw [if_pos hb] at h | rw [if_neg hb] at h | (simp only [hb, hT, reduceIte] at h) | skip
    refine AWp.skip ?_
    refine W.kp [2, 3, 4, 5, 6, 7, 8, 9, 19, 24, 31] ?_
    refine AWp.region ?_
    refine L.Y Y.mv ?_
    refine L.Y Y.bin ?_
    refine L.Y Y.asg ?_
    refine AList.nil ?_
    exact ⟨k2, by omega, _, _, ⟨by omega, _, _, _, _, _, _, _, _, rfl, rfl, h⟩, IsPart.at [] [0, 1, 2, 3, 4, 5] base0 (H.c (H.c (H.c (H.c (H.c (H.c .nil)))))) (E.c (E.c (E.c (E.c (E.c (E.c (E.c (E.c .nil))))))))⟩
 ·
  have hb5 := hb
  try simp only [hS, hE, ne_eq] at hb
  first | rw [if_pos hb5] at h | rw [if_neg (Bool.eq_false_iff.1 hb5)] at h | rw [if_pos hb] at h | rw [if_neg hb] at h | (simp only [hb, hT, reduceIte] at h) | skip
  refine AWp.exit ?_
  refine AWp.seq ?_
  refine AWp.seq ?_
  refine W.kp [2, 3, 4, 5, 6, 7, 8, 9, 19] ?_
  refine AWp.region ?_
  refine L.Y Y.mv ?_
  replace h := Option.bind_eq_some_iff.1 h
  obtain ⟨⟨t363, t364, t365⟩, hc12, h⟩ := h
  dsimp only at h
  refine L.C (C.callE (l := false) [1] Tryd.func76 (spec_l1Cur_one.ac _ _ _ _ _ _ _ hc12) (H.c .nil) ?_)
  refine AList.nil ?_
  refine W.cond (fun hb => ?_) (fun hb => ?_)
  ·
   have hb13 := hb
   try simp only [hS, hE, ne_eq] at hb
   first | rw [if_pos hb13] at h | rw [if_neg (Bool.eq_false_iff.1 hb13)] at h | rw [if_pos hb] at h | rw [if_neg hb] at h | (simp only [hb, hT, reduceIte] at h) | skip
   refine AWp.region ?_
   refine L.Y Y.mv ?_
   refine L.Y Y.mv ?_
   refine L.S (S.ldN Tryd.underlying30 Y30) ?_
   replace h := Option.bind_eq_some_iff.1 h
   obtain ⟨⟨t366, t367, t368⟩, hc14, h⟩ := h
   dsimp only at h
   repeat (first | (rw [iN] at h; obtain ⟨_, h⟩ := h) | (rw [iP] at h; obtain ⟨_, h⟩ := h) | (simp only [bS] at h))
   refine L.C ?_
   refine C.frz 5 ?_
   refine C.callE (l := false) [1] Tryd.func97 (spec_l1Cur_element.ac _ _ _ _ _ _ _ _ hc14) (H.c .nil) ?_
   refine L.M (M.bs Tryd.underlying22 Y3) ?_
   refine L.S (S.ap (nn' := false) Tryd.underlying22 Y3) ?_
   refine L.Y Y.asg ?_
   refine AList.nil ?_
   refine AWp.seq ?_
   refine W.kp [2, 3, 4, 5, 6, 7, 8, 9, 19, 37] ?_
   refine AWp.region ?_
   refine L.S (S.ldN Tryd.underlying30 Y30) ?_
   refine L.Y Y.mv ?_
   refine L.Y Y.mv ?_
   refine L.S (S.stb Y30) ?_
   refine L.Y Y.asg ?_
   refine L.Y Y.asg ?_
   refine AList.nil ?_
   simp only [Option.some.injEq, Prod.mk.injEq] at h
   obtain ⟨rfl, rfl, rfl, rfl⟩ := h
   refine AWp.ret ?_
   exact ⟨.inr rfl, _, _, _, Res.n3 (Res1.cl (p := 2) Tryd.underlying30 Y30) (Res1.tm (q := 3)) (Res1.tm (q := 4)), ⟨rfl, rfl⟩, PartV.at [] [3, 4] base0 (H.c (H.c .nil))⟩
  ·
   have hb13 := hb
   try simp only [hS, hE, ne_eq] at hb
   first | rw [if_pos hb13] at h | rw [if_neg (Bool.eq_false_iff.1 hb13)] at h | rw [if_pos hb] at h | rw [if_neg hb] at h | (simp only [hb, hT, reduceIte] at h) | skip
   refine AWp.skip ?_
   refine AWp.seq ?_
   refine AWp.region ?_
   refine L.S (S.ldN Tryd.underlying30 Y30) ?_
   refine L.Y Y.mv ?_
   refine L.Y Y.mv ?_
   refine L.S (S.stb Y30) ?_
   refine L.Y Y.asg ?_
   refine L.Y Y.asg ?_
   refine AList.nil ?_
   simp only [Option.some.injEq, Prod.mk.injEq] at h
   obtain ⟨rfl, rfl, rfl, rfl⟩ := h
   refine W.frz 5 ?_
   refine AWp.ret ?_
   exact ⟨.inr rfl, _, _, _, Res.n3 (Res1.cl (p := 2) Tryd.underlying30 Y30) (Res1.tm (q := 3)) (Res1.tm (q := 4)), ⟨rfl, rfl⟩, PartV.at [] [3, 4] base0 (H.c (H.c .nil))⟩

/-! ### laws_vSame: function 98 -/
def laws_vSame.l0 : Nat → List Int → List Int → Int → Int → Option (Bool)
 | 0, _, _, _, _ => none
 | k + 1, x0, x1, x12, x13 => if x13 < x12 then (if 0 ≤ x13 then (if x13 < (x0.length : Int) then (if x13 < (x1.length : Int) then (if (rd x0 x13) = (rd x1 x13) then (laws_vSame.l0 k x0 x1 x12 (wrap64 (x13 + 1))) else (some false)) else (none)) else (none)) else (none)) else (some true)
def laws_vSame.f (k : Nat) (l0 : List Int) (l1 : List Int) : Option (Bool) := if (l0.length : Int) = (l1.length : Int) then (laws_vSame.l0 k l0 l1 (l0.length : Int) 0) else (some false)
set_option maxRecDepth 100000 in
set_option maxHeartbeats 20000000 in
theorem laws_vSame.ac (k : Nat) (l0 : List Int) (l1 : List Int) (r : Bool) (h : laws_vSame.f k l0 l1 = some r) :
  ACalls Tryd.prog 98 [.row 1 l0.length false (ints .i64 l0), .row 1 l1.length false (ints .i64 l1)] [] (fun v H' => v = .lit (.bool r) ∧ H' = []) := by
 refine ACalls.ofP [4] Tryd.func98 rfl (by exact Nat.le_of_ble_eq_true rfl) rfl (by decide) ?_
 simp only [Tryd.ntmps98, env0, laws_vSame.f] at h ⊢
 refine AWp.seq ?_
 refine AWp.region ?_
 refine L.Y Y.asg ?_
 refine AList.nil ?_
 refine AWp.seq ?_
 refine AWp.seq ?_
 refine AWp.region ?_
 refine L.Y Y.mv ?_
 refine L.Y (Y.ln Tryd.underlying22) ?_
 refine L.Y Y.mv ?_
 refine L.Y (Y.ln Tryd.underlying22) ?_
 refine L.Y Y.bin ?_
 refine AList.nil ?_
 refine W.cond (fun hb => ?_) (fun hb => ?_)
 ·
  have hb1 := hb
  try simp only [hS, hE, ne_eq] at hb
  first | rw [if_pos hb1] at h | rw [if_neg (Bool.eq_false_iff.1 hb1)] at h | rw [if_pos hb] at h | rw [if_neg hb] at h | (simp only [hb, hT, reduceIte] at h) | skip
  refine AWp.seq ?_
  refine W.kp [0, 1, 4, 10] ?_
  refine AWp.region ?_
  refine L.Y Y.asg ?_
  refine AList.nil ?_
  obtain rfl := Option.some.inj h
  refine AWp.ret ?_
  exact ⟨.inr rfl, [(4, _)], _, ⟨rfl, rfl⟩, IsPart.at [] [] base0 .nil (E.c .nil)⟩
 ·
  have hb1 := hb
  try simp only [hS, hE, ne_eq] at hb
  first | rw [if_pos hb1] at h | rw [if_neg (Bool.eq_false_iff.1 hb1)] at h | rw [if_pos hb] at h | rw [if_neg hb] at h | (simp only [hb, hT, reduceIte] at h) | skip
  refine AWp.skip ?_
  refine AWp.seq ?_
  refine AWp.seq ?_
  refine W.kp [0, 1, 4, 10] ?_
  refine AWp.region ?_
  refine L.Y Y.mv ?_
  refine L.Y (Y.ln Tryd.underlying22) ?_
  refine L.Y Y.mv ?_
  refine AList.nil ?_
  refine AWp.block ?_
  refine AWp.loopI (fun kk e H => kk ≤ k ∧ ∃ (x12 : Int) (x13 : Int), e = [(0, .row 1 l0.length false (ints .i64 l0)), (1, .row 1 l1.length false (ints .i64 l1)), (12, .lit (.int .i64 x12)), (13, .lit (.int .i64 x13))] ∧ H = [] ∧ laws_vSame.l0 kk l0 l1 x12 x13 = some r) (k := k)
   ⟨_, _, ⟨Nat.le_refl _, _, _, rfl, rfl, h⟩, IsPart.at [] [] base0 .nil (E.c (E.c (E.c (E.c .nil))))⟩ ?_
  clear h
  rintro k2 e H ⟨hk3, x12, x13, rfl, rfl, h⟩
  cases k2 with
  | zero => exact absurd h (by simp [laws_vSame.l0])
  | succ k2 =>
  simp only [laws_vSame.l0] at h
  refine AWp.seq ?_
  refine AWp.region ?_
  refine L.Y Y.bin ?_
  refine AList.nil ?_
  refine AWp.seq ?_
  refine W.cond (fun hb => ?_) (fun hb => ?_)
  ·
   have hb4 := hb
   try simp only [hS, hE, ne_eq] at hb
   first | rw [if_pos hb4] at h | rw [if_neg (Bool.eq_false_iff.1 hb4)] at h | rw [if_pos hb] at h | rw [if_neg hb] at h | (simp only [hb, hT, reduceIte] at h) | skip
   repeat (first | (rw [iN] at h; obtain ⟨_, h⟩ := h) | (rw [iP] at h; obtain ⟨_, h⟩ := h) | (simp only [bS] at h))
   refine AWp.skip ?_
   refine AWp.seq ?_
   refine AWp.block ?_
   refine AWp.seq ?_
   refine AWp.region ?_
   refine L.Y Y.mv ?_
   refine L.Y Y.asg ?_
   refine AList.nil ?_
   refine AWp.seq ?_
   refine Dt.reg [] [] (.y 0 (.y 1 (.y 2 (.t 3 (.y 4 (.y 5 (.y 6 (.t 7 (.y 8 .done))))))))) HM ?_
   refine Dt.Y rfl wantN Y.mv ?_
   refine Dt.Y rfl wantN Y.mv ?_
   refine Dt.Y rfl wantN (Y.ixr Tryd.underlying22 Y3) ?_
   refine Dt.T rfl wantN (D.ld Tryd.underlying3) ?_
   refine Dt.Y rfl wantN Y.mv ?_
   refine Dt.Y rfl wantN Y.mv ?_
   refine Dt.Y rfl wantN (Y.ixr Tryd.underlying22 Y3) ?_
   refine Dt.T rfl wantN (D.ld Tryd.underlying3) ?_
   refine Dt.Y rfl wantN Y.bin ?_
   refine Dt.nil ?_
   refine W.cond (fun hb => ?_) (fun hb => ?_)
   ·
    have hb5 := hb
    try simp only [hS, hE, ne_eq] at hb
    first | rw [if_pos hb5] at h | rw [if_neg (Bool.eq_false_iff.1 hb5)] at h | rw [if_pos hb] at h | rw [if_neg hb] at h | (simp only [hb, hT, reduceIte] at h) | skip
    refine AWp.seq ?_
    refine W.kp [0, 1, 5, 12, 13, 14, 24] ?_
    refine AWp.region ?_
    refine L.Y Y.asg ?_
    refine AList.nil ?_
    obtain rfl := Option.some.inj h
    refine AWp.ret ?_
    exact ⟨.inr rfl, [(4, _)], _, ⟨rfl, rfl⟩, IsPart.at [] [] base0 .nil (E.c .nil)⟩
   ·
    have hb5 := hb
    try simp only [hS, hE, ne_eq] at hb
    first | rw [if_pos hb5] at h | rw [if_neg (Bool.eq_false_iff.1 hb5)] at h | rw [if_pos hb] at h | rw [if_neg hb] at h | (simp only [hb, hT, reduceIte] at h) | skip
    refine AWp.skip ?_
    refine W.kp [0, 1, 5, 12, 13, 14, 24] ?_
    refine AWp.region ?_
    refine L.Y Y.bin ?_
    refine L.Y Y.mv ?_
    refine AList.nil ?_
    exact ⟨k2, by omega, _, _, ⟨by omega, _, _, rfl, rfl, h⟩, IsPart.at [] [] base0 .nil (E.c (E.c (E.c (E.c .nil))))⟩
  ·
   have hb4 := hb
   try simp only [hS, hE, ne_eq] at hb
   first | rw [if_pos hb4] at h | rw [if_neg (Bool.eq_false_iff.1 hb4)] at h | rw [if_pos hb] at h | rw [if_neg hb] at h | (simp only [hb, hT, reduceIte] at h) | skip
   refine AWp.exit ?_
   refine AWp.seq ?_
   refine AWp.region ?_
   refine L.Y Y.asg ?_
   refine AList.nil ?_
   obtain rfl := Option.some.inj h
   refine AWp.ret ?_
   exact ⟨.inr rfl, [(4, _)], _, ⟨rfl, rfl⟩, IsPart.at [] [] base0 .nil (E.c .nil)⟩

/-! ### laws_vTable: function 39 -/
def laws_vTable.f (k : Nat) (a0_0 : Int) (a0_1 : Int) (l0_2 : List Int) (a1_0 : Int) (a1_1 : Int) (l1_2 : List Int) : Option (Bool) := if a0_0 = a1_0 then (if a0_1 = a1_1 then ((laws_vSame.f k l0_2 l1_2).bind fun t376 => (some t376)) else (some false)) else (some false)
set_option maxRecDepth 100000 in
set_option maxHeartbeats 20000000 in
theorem laws_vTable.ac (k : Nat) (a0_0 : Int) (a0_1 : Int) (l0_2 : List Int) (a1_0 : Int) (a1_1 : Int) (l1_2 : List Int) (r : Bool) (h : laws_vTable.f k a0_0 a0_1 l0_2 a1_0 a1_1 l1_2 = some r) :
  ACalls Tryd.prog 39 [.agg [.lit (.int .i64 a0_0), .lit (.int .i64 a0_1), .row 1 l0_2.length false (ints .i64 l0_2)], .agg [.lit (.int .i64 a1_0), .lit (.int .i64 a1_1), .row 1 l1_2.length false (ints .i64 l1_2)]] [] (fun v H' => v = .lit (.bool r) ∧ H' = []) := by
 refine ACalls.ofP [4] Tryd.func39 rfl (by exact Nat.le_of_ble_eq_true rfl) rfl (by decide) ?_
 simp only [Tryd.ntmps39, env0, laws_vTable.f] at h ⊢
 refine AWp.seq ?_
 refine AWp.region ?_
 refine L.M M.bx ?_
 refine L.M M.bx ?_
 refine L.Y Y.asg ?_
 refine AList.nil ?_
 refine AWp.seq ?_
 refine AWp.region ?_
 refine L.Y (Y.fa (off := 0) Tryd.underlying27 Y3) ?_
 refine L.S (S.ld Tryd.underlying3) ?_
 refine L.Y (Y.fa (off := 0) Tryd.underlying27 Y3) ?_
 refine L.S (S.ld Tryd.underlying3) ?_
 refine L.Y Y.bin ?_
 refine L.Y Y.mv ?_
 refine L.Gc (fun hb => ?_) (fun hb => ?_)
 ·
  have hb1 := hb
  try simp only [hS, hE, ne_eq] at hb
  first | rw [if_pos hb1] at h | rw [if_neg (Bool.eq_false_iff.1 hb1)] at h | rw [if_pos hb] at h | rw [if_neg hb] at h | (simp only [hb, hT, reduceIte] at h) | skip
  refine L.Gy hb1 (Y.fa (off := 1) Tryd.underlying27 Y3) ?_
  refine L.Gs hb1 (S.ld Tryd.underlying3) ?_
  refine L.Gy hb1 (Y.fa (off := 1) Tryd.underlying27 Y3) ?_
  refine L.Gs hb1 (S.ld Tryd.underlying3) ?_
  refine L.Gy hb1 Y.bin ?_
  refine L.Y (Y.pk (c := true) hb1) ?_
  refine L.Y Y.mv ?_
  refine L.Gc (fun hb => ?_) (fun hb => ?_)
  ·
   have hb2 := hb
   try simp only [hS, hE, ne_eq] at hb
   first | rw [if_pos hb2] at h | rw [if_neg (Bool.eq_false_iff.1 hb2)] at h | rw [if_pos hb] at h | rw [if_neg hb] at h | (simp only [hb, hT, reduceIte] at h) | skip
   refine L.Gy hb2 (Y.fa (off := 2) Tryd.underlying27 Y22) ?_
   refine L.Gs hb2 (S.ld Tryd.underlying22) ?_
   refine L.Gy hb2 (Y.fa (off := 2) Tryd.underlying27 Y22) ?_
   refine L.Gs hb2 (S.ld Tryd.underlying22) ?_
   replace h := Option.bind_eq_some_iff.1 h
   obtain ⟨t376, hc3, h⟩ := h
   refine L.GC hb2 (C.callE (l := true) [] Tryd.func98 (laws_vSame.ac _ _ _ _ hc3) .nil ?_)
   refine L.Y (Y.pk (c := true) hb2) ?_
   refine L.Y Y.asg ?_
   refine AList.nil ?_
   obtain rfl := Option.some.inj h
   refine AWp.ret ?_
   exact ⟨.inr rfl, [(4, _)], _, ⟨rfl, rfl⟩, IsPart.at [] [] base0 .nil (E.c .nil)⟩
  ·
   have hb2 := hb
   try simp only [hS, hE, ne_eq] at hb
   first | rw [if_pos hb2] at h | rw [if_neg (Bool.eq_false_iff.1 hb2)] at h | rw [if_pos hb] at h | rw [if_neg hb] at h | (simp only [hb, hT, reduceIte] at h) | skip
   refine L.Gn hb2 ?_
   refine L.Gn hb2 ?_
   refine L.Gn hb2 ?_
   refine L.Gn hb2 ?_
   refine L.Gn hb2 ?_
   refine L.Y (Y.pk (c := false) hb2) ?_
   refine L.Y Y.asg ?_
   refine AList.nil ?_
   obtain rfl := Option.some.inj h
   refine AWp.ret ?_
   exact ⟨.inr rfl, [(4, _)], _, ⟨rfl, rfl⟩, IsPart.at [] [] base0 .nil (E.c .nil)⟩
 ·
  have hb1 := hb
  try simp only [hS, hE, ne_eq] at hb
  first | rw [if_pos hb1] at h | rw [if_neg (Bool.eq_false_iff.1 hb1)] at h | rw [if_pos hb] at h | rw [if_neg hb] at h | (simp only [hb, hT, reduceIte] at h) | skip
  refine L.Gn hb1 ?_
  refine L.Gn hb1 ?_
  refine L.Gn hb1 ?_
  refine L.Gn hb1 ?_
  refine L.Gn hb1 ?_
  refine L.Y (Y.pk (c := false) hb1) ?_
  refine L.Y Y.mv ?_
  refine L.Gc (fun hb => ?_) (fun hb => ?_)
  ·
   first | exact Bool.false_ne_true ((Eq.symm (by assumption)).trans hb) | exact Bool.false_ne_true (hb.symm.trans (by assumption)) | exact DD hb
  have hb4 := hb
  refine L.Gn hb4 ?_
  refine L.Gn hb4 ?_
  refine L.Gn hb4 ?_
  refine L.Gn hb4 ?_
  refine L.Gn hb4 ?_
  refine L.Y (Y.pk (c := false) hb4) ?_
  refine L.Y Y.asg ?_
  refine AList.nil ?_
  obtain rfl := Option.some.inj h
  refine AWp.ret ?_
  exact ⟨.inr rfl, [(4, _)], _, ⟨rfl, rfl⟩, IsPart.at [] [] base0 .nil (E.c .nil)⟩

/-! ### impl_IsTable: function 99 -/
def impl_IsTable.f (k : Nat) (a0_0 : Int) (a0_1 : Int) (l0_2 : List Int) : Option (Bool) := (impl_within.f a0_0 1 6).bind fun t378 => (if t378 = true then ((impl_within.f a0_1 1 6).bind fun t379 => (if t379 = true then (if (l0_2.length : Int) = a0_0 then (if 0 ≤ a0_1 then ((impl_allWithin.f k l0_2 0 (wrap64 ((shl .i64 1 a0_1) - 1))).bind fun t380 => (some t380)) else (none)) else (some false)) else (some false))) else (some false))
set_option maxRecDepth 100000 in
set_option maxHeartbeats 20000000 in
theorem impl_IsTable.ac (k : Nat) (a0_0 : Int) (a0_1 : Int) (l0_2 : List Int) (r : Bool) (h : impl_IsTable.f k a0_0 a0_1 l0_2 = some r) :
  ACalls Tryd.prog 99 [.agg [.lit (.int .i64 a0_0), .lit (.int .i64 a0_1), .row 1 l0_2.length false (ints .i64 l0_2)]] [] (fun v H' => v = .lit (.bool r) ∧ H' = []) := by
 refine ACalls.ofP [2] Tryd.func99 rfl (by exact Nat.le_of_ble_eq_true rfl) rfl (by decide) ?_
 simp only [Tryd.ntmps99, env0, impl_IsTable.f] at h ⊢
 refine AWp.seq ?_
 refine AWp.region ?_
 refine L.M M.bx ?_
 refine L.Y Y.asg ?_
 refine AList.nil ?_
 refine AWp.seq ?_
 refine Dt.reg [] [] (.y 0 (.t 1 (.one 2 (.y 3 (.y 4 (.t 5 (.one 6 (.y 7 (.y 8 (.y 9 (.t 10 (.y 11 (.y 12 (.t 13 (.y 14 (.y 15 (.y 16 (.y 17 (.t 18 (.y 19 (.t 20 (.y 21 (.y 22 (.one 23 (.y 24 (.y 25 .done)))))))))))))))))))))))))) HM ?_
 refine Dt.Y rfl wantN (Y.fa (off := 0) Tryd.underlying27 Y3) ?_
 refine Dt.T rfl wantN (D.ld Tryd.underlying3) ?_
 refine Dt.O (g' := false) rfl wantN ?_
 replace h := Option.bind_eq_some_iff.1 h
 obtain ⟨t378, hc1, h⟩ := h
 refine Ox.C true [] Tryd.func68 (impl_within.ac _ _ _ _ hc1) .nil ?_
 refine Dt.Y rfl wantN Y.mv ?_
 refine Dt.F 6 (fun hb => ?_) (fun hb => ?_)
 ·
  have hb2 := hb
  try simp only [hS, hE, ne_eq] at hb
  first | rw [if_pos hb2] at h | rw [if_neg (Bool.eq_false_iff.1 hb2)] at h | rw [if_pos hb] at h | rw [if_neg hb] at h | (simp only [hb, hT, reduceIte] at h) | skip
  refine Dt.Y rfl (wantY hb2) (Y.fa (off := 1) Tryd.underlying27 Y3) ?_
  refine Dt.T rfl (wantY hb2) (D.ld Tryd.underlying3) ?_
  refine Dt.O (g' := false) rfl (wantY hb2) ?_
  replace h := Option.bind_eq_some_iff.1 h
  obtain ⟨t379, hc3, h⟩ := h
  refine Ox.C true [] Tryd.func68 (impl_within.ac _ _ _ _ hc3) .nil ?_
  refine Dt.Y rfl wantN (Y.pk (c := true) hb2) ?_
  refine Dt.Y rfl wantN Y.mv ?_
  refine Dt.F 11 (fun hb => ?_) (fun hb => ?_)
  ·
   have hb4 := hb
   try simp only [hS, hE, ne_eq] at hb
   first | rw [if_pos hb4] at h | rw [if_neg (Bool.eq_false_iff.1 hb4)] at h | rw [if_pos hb] at h | rw [if_neg hb] at h | (simp only [hb, hT, reduceIte] at h) | skip
   refine Dt.Y rfl (wantY hb4) (Y.fa (off := 2) Tryd.underlying27 Y22) ?_
   refine Dt.T rfl (wantY hb4) (D.ld Tryd.underlying22) ?_
   refine Dt.Y rfl (wantY hb4) (Y.ln Tryd.underlying22) ?_
   refine Dt.Y rfl (wantY hb4) (Y.fa (off := 0) Tryd.underlying27 Y3) ?_
   refine Dt.T rfl (wantY hb4) (D.ld Tryd.underlying3) ?_
   refine Dt.Y rfl (wantY hb4) Y.bin ?_
   refine Dt.Y rfl wantN (Y.pk (c := true) hb4) ?_
   refine Dt.Y rfl wantN Y.mv ?_
   refine Dt.F 19 (fun hb => ?_) (fun hb => ?_)
   ·
    have hb5 := hb
    try simp only [hS, hE, ne_eq] at hb
    first | rw [if_pos hb5] at h | rw [if_neg (Bool.eq_false_iff.1 hb5)] at h | rw [if_pos hb] at h | rw [if_neg hb] at h | (simp only [hb, hT, reduceIte] at h) | skip
    repeat (first | (rw [iN] at h; obtain ⟨_, h⟩ := h) | (rw [iP] at h; obtain ⟨_, h⟩ := h) | (simp only [bS] at h))
    refine Dt.Y rfl (wantY hb5) (Y.fa (off := 2) Tryd.underlying27 Y22) ?_
    refine Dt.T rfl (wantY hb5) (D.ld Tryd.underlying22) ?_
    refine Dt.Y rfl (wantY hb5) (Y.fa (off := 1) Tryd.underlying27 Y3) ?_
    refine Dt.T rfl (wantY hb5) (D.ld Tryd.underlying3) ?_
    refine Dt.Y rfl (wantY hb5) Y.bin ?_
    refine Dt.Y rfl (wantY hb5) Y.bin ?_
    refine Dt.O (g' := false) rfl (wantY hb5) ?_
    replace h := Option.bind_eq_some_iff.1 h
    obtain ⟨t380, hc6, h⟩ := h
    refine Ox.C true [] Tryd.func88 (impl_allWithin.ac _ _ _ _ _ hc6) .nil ?_
    refine Dt.Y rfl wantN (Y.pk (c := true) hb5) ?_
    refine Dt.Y rfl wantN Y.asg ?_
    refine Dt.nil ?_
    obtain rfl := Option.some.inj h
    refine AWp.ret ?_
    exact ⟨.inr rfl, [(2, _)], _, ⟨rfl, rfl⟩, IsPart.at [] [] base0 .nil (E.c .nil)⟩
   ·
    have hb5 := hb
    try simp only [hS, hE, ne_eq] at hb
    first | rw [if_pos hb5] at h | rw [if_neg (Bool.eq_false_iff.1 hb5)] at h | rw [if_pos hb] at h | rw [if_neg hb] at h | (simp only [hb, hT, reduceIte] at h) | skip
    refine Dt.No rfl (wantZ hb5) ?_
    refine Dt.Nt rfl (wantZ hb5) ?_
    refine Dt.No rfl (wantZ hb5) ?_
    refine Dt.Nt rfl (wantZ hb5) ?_
    refine Dt.No rfl (wantZ hb5) ?_
    refine Dt.No rfl (wantZ hb5) ?_
    refine Dt.Po rfl (wantZ hb5) ?_
    refine Dt.Y rfl wantN (Y.pk (c := false) hb5) ?_
    refine Dt.Y rfl wantN Y.asg ?_
    refine Dt.nil ?_
    obtain rfl := Option.some.inj h
    refine AWp.ret ?_
    exact ⟨.inr rfl, [(2, _)], _, ⟨rfl, rfl⟩, IsPart.at [] [] base0 .nil (E.c .nil)⟩
  ·
   have hb4 := hb
   try simp only [hS, hE, ne_eq] at hb
   first | rw [if_pos hb4] at h | rw [if_neg (Bool.eq_false_iff.1 hb4)] at h | rw [if_pos hb] at h | rw [if_neg hb] at h | (simp only [hb, hT, reduceIte] at h) | skip
   refine Dt.No rfl (wantZ hb4) ?_
   refine Dt.Nt rfl (wantZ hb4) ?_
   refine Dt.No rfl (wantZ hb4) ?_
   refine Dt.No rfl (wantZ hb4) ?_
   refine Dt.Nt rfl (wantZ hb4) ?_
   refine Dt.No rfl (wantZ hb4) ?_
   refine Dt.Y rfl wantN (Y.pk (c := false) hb4) ?_
   refine Dt.Y rfl wantN Y.mv ?_
   refine Dt.F 19 (fun hb => ?_) (fun hb => ?_)
   ·
    first | exact Bool.false_ne_true ((Eq.symm (by assumption)).trans hb) | exact Bool.false_ne_true (hb.symm.trans (by assumption)) | exact DD hb
   have hb7 := hb
   refine Dt.No rfl (wantZ hb7) ?_
   refine Dt.Nt rfl (wantZ hb7) ?_
   refine Dt.No rfl (wantZ hb7) ?_
   refine Dt.Nt rfl (wantZ hb7) ?_
   refine Dt.No rfl (wantZ hb7) ?_
   refine Dt.No rfl (wantZ hb7) ?_
   refine Dt.Po rfl (wantZ hb7) ?_
   refine Dt.Y rfl wantN (Y.pk (c := false) hb7) ?_
   refine Dt.Y rfl wantN Y.asg ?_
   refine Dt.nil ?_
   obtain rfl := Option.some.inj h
   refine AWp.ret ?_
   exact ⟨.inr rfl, [(2, _)], _, ⟨rfl, rfl⟩, IsPart.at [] [] base0 .nil (E.c .nil)⟩
 ·
  have hb2 := hb
  try simp only [hS, hE, ne_eq] at hb
  first | rw [if_pos hb2] at h | rw [if_neg (Bool.eq_false_iff.1 hb2)] at h | rw [if_pos hb] at h | rw [if_neg hb] at h | (simp only [hb, hT, reduceIte] at h) | skip
  refine Dt.No rfl (wantZ hb2) ?_
  refine Dt.Nt rfl (wantZ hb2) ?_
  refine Dt.Po rfl (wantZ hb2) ?_
  refine Dt.Y rfl wantN (Y.pk (c := false) hb2) ?_
  refine Dt.Y rfl wantN Y.mv ?_
  refine Dt.F 11 (fun hb => ?_) (fun hb => ?_)
  ·
   first | exact Bool.false_ne_true ((Eq.symm (by assumption)).trans hb) | exact Bool.false_ne_true (hb.symm.trans (by assumption)) | exact DD hb
  have hb8 := hb
  refine Dt.No rfl (wantZ hb8) ?_
  refine Dt.Nt rfl (wantZ hb8) ?_
  refine Dt.No rfl (wantZ hb8) ?_
  refine Dt.No rfl (wantZ hb8) ?_
  refine Dt.Nt rfl (wantZ hb8) ?_
  refine Dt.No rfl (wantZ hb8) ?_
  refine Dt.Y rfl wantN (Y.pk (c := false) hb8) ?_
  refine Dt.Y rfl wantN Y.mv ?_
  refine Dt.F 19 (fun hb => ?_) (fun hb => ?_)
  ·
   first | exact Bool.false_ne_true ((Eq.symm (by assumption)).trans hb) | exact Bool.false_ne_true (hb.symm.trans (by assumption)) | exact DD hb
  have hb9 := hb
  refine Dt.No rfl (wantZ hb9) ?_
  refine Dt.Nt rfl (wantZ hb9) ?_
  refine Dt.No rfl (wantZ hb9) ?_
  refine Dt.Nt rfl (wantZ hb9) ?_
  refine Dt.No rfl (wantZ hb9) ?_
  refine Dt.No rfl (wantZ hb9) ?_
  refine Dt.Po rfl (wantZ hb9) ?_
  refine Dt.Y rfl wantN (Y.pk (c := false) hb9) ?_
  refine Dt.Y rfl wantN Y.asg ?_
  refine Dt.nil ?_
  obtain rfl := Option.some.inj h
  refine AWp.ret ?_
  exact ⟨.inr rfl, [(2, _)], _, ⟨rfl, rfl⟩, IsPart.at [] [] base0 .nil (E.c .nil)⟩

/-! ### impl_Table_marked: function 135 -/
def impl_Table_marked.f (a0_0 : Int) (a0_1 : Int) (l0_2 : List Int) (a1 : Int) (a2 : Int) : Option (Bool) := if 0 ≤ a1 then (if a1 < (l0_2.length : Int) then (if 0 ≤ a2 then (some ((Go.bits .and .i64 (shr .i64 (rd l0_2 a1) a2) 1) == 1)) else (none)) else (none)) else (none)
set_option maxRecDepth 100000 in
set_option maxHeartbeats 20000000 in
theorem impl_Table_marked.ac (a0_0 : Int) (a0_1 : Int) (l0_2 : List Int) (a1 : Int) (a2 : Int) (r : Bool) (h : impl_Table_marked.f a0_0 a0_1 l0_2 a1 a2 = some r) :
  ACalls Tryd.prog 135 [.agg [.lit (.int .i64 a0_0), .lit (.int .i64 a0_1), .row 1 l0_2.length false (ints .i64 l0_2)], .lit (.int .i64 a1), .lit (.int .i64 a2)] [] (fun v H' => v = .lit (.bool r) ∧ H' = []) := by
 refine ACalls.ofP [6] Tryd.func135 rfl (by exact Nat.le_of_ble_eq_true rfl) rfl (by decide) ?_
 simp only [Tryd.ntmps135, env0, impl_Table_marked.f] at h ⊢
 repeat (first | (rw [iN] at h; obtain ⟨_, h⟩ := h) | (rw [iP] at h; obtain ⟨_, h⟩ := h) | (simp only [bS] at h))
 refine AWp.seq ?_
 refine AWp.region ?_
 refine L.M M.bx ?_
 refine L.Y Y.asg ?_
 refine AList.nil ?_
 refine AWp.seq ?_
 refine AWp.region ?_
 refine L.Y (Y.fa (off := 2) Tryd.underlying27 Y22) ?_
 refine L.S (S.ld Tryd.underlying22) ?_
 refine L.Y Y.mv ?_
 refine L.Y (Y.ixr Tryd.underlying22 Y3) ?_
 refine L.S (S.ld Tryd.underlying3) ?_
 refine L.Y Y.mv ?_
 refine L.Y Y.bin ?_
 refine L.Y Y.bin ?_
 refine L.Y Y.bin ?_
 refine L.Y Y.asg ?_
 refine AList.nil ?_
 obtain rfl := Option.some.inj h
 refine AWp.ret ?_
 exact ⟨.inr rfl, [(6, _)], _, ⟨rfl, rfl⟩, IsPart.at [] [] base0 .nil (E.c .nil)⟩

end Go.Proofs.YtpippjgphndjmaaDoor.PFnOrdersAsTables
