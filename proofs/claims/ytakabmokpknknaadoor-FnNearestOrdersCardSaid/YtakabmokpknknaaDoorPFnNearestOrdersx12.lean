-- Written by a program of this session's (wip/myprint2): the functions by the kit's print, the walks by awgen.py. Lean checks it.
import Derived.Test.YtakabmokpknknaaDoorPFnNearestOrdersx0
import Derived.Test.YtakabmokpknknaaDoorPFnNearestOrdersx1
import Derived.Test.YtakabmokpknknaaDoorPFnNearestOrdersx4
import Derived.Test.YtakabmokpknknaaDoorPFnNearestOrdersx8
import Derived.Test.YtakabmokpknknaaDoorPFnNearestOrdersx9
import Derived.Test.YtakabmokpknknaaDoorPFnNearestOrdersx10
import Derived.Test.YtakabmokpknknaaDoorPFnNearestOrdersx11
namespace Go.Proofs.YtakabmokpknknaaDoor.PFnNearestOrders
open Go.RowKit Go.Proofs.YtakabmokpknknaaDoorW.PrintWords Go.Proofs.YtakabmokpknknaaDoorW.PrintLast Go.Proofs.YtakabmokpknknaaDoorW.PrintMore Go.Proofs.YtakabmokpknknaaDoorM Go.Proofs.YtakabmokpknknaaDoorA Go.Proofs.YtakabmokpknknaaDoorT
attribute [local go_sem] max2_int min2_int max_two min_two max_three min_three max_four min_four   -- for this text's walks alone
set_option linter.unusedVariables false
set_option linter.unusedSimpArgs false

/-! ### spec_l1Cur_kind: function 91 -/
def spec_l1Cur_kind.f (s0_0 : List Int) (s0_1 : Int) (s0_2 : Int) : Option (Int × Int × Int) := (spec_l1Cur_one.f s0_0 s0_1 s0_2 15).bind fun bt512 => (if bt512.1 = true then ((spec_l1Cur_among.f s0_0 bt512.2.1 bt512.2.2 (([(-1), 4] : List Int))).bind fun bt518 => (some (bt518.1, bt518.2.1, bt518.2.2))) else ((spec_l1Cur_pick.f s0_0 bt512.2.1 bt512.2.2 4).bind fun bt521 => (some (bt521.1, bt521.2.1, bt521.2.2))))
set_option maxRecDepth 100000 in
set_option maxHeartbeats 20000000 in
theorem spec_l1Cur_kind.ac (s0_0 : List Int) (s0_1 : Int) (s0_2 : Int) (r1 : Int) (r2 : Int) (r3 : Int) (h : spec_l1Cur_kind.f s0_0 s0_1 s0_2 = some (r1, r2, r3)) :
  ACalls Tryd.prog 91 [.ptr 0 0] [.bx 106 [.row 1 s0_0.length false (ints .u8 s0_0), .lit (.int .i64 s0_1), .lit (.int .u64 s0_2)]] (fun v H' => v = .lit (.int .i64 r1) ∧ H' = [.bx 106 [.row 1 s0_0.length false (ints .u8 s0_0), .lit (.int .i64 r2), .lit (.int .u64 r3)]]) := by
 refine ACalls.ofP [2] Tryd.func91 rfl (by exact Nat.le_of_ble_eq_true rfl) rfl (by decide) ?_
 simp only [Tryd.ntmps91, env0, spec_l1Cur_kind.f] at h ⊢
 refine AWp.seq ?_
 refine AWp.region ?_
 refine L.Y Y.asg ?_
 refine AList.nil ?_
 refine AWp.seq ?_
 refine AWp.seq ?_
 refine AWp.region ?_
 refine L.Y Y.mv ?_
 replace h := Option.bind_eq_some_iff.1 h
 obtain ⟨⟨t512, t513, t514⟩, hc1, h⟩ := h
 dsimp only at h
 refine L.C (C.callE (l := false) [0] Tryd.func89 (spec_l1Cur_one.ac _ _ _ _ _ _ _ hc1) (H.c .nil) ?_)
 refine AList.nil ?_
 refine W.cond (fun hb => ?_) (fun hb => ?_)
 ·
  have hb2 := hb
  try simp only [hS, hE, ne_eq] at hb
  first | rw [if_pos hb2] at h | rw [if_neg (Bool.eq_false_iff.1 hb2)] at h | rw [if_pos hb] at h | rw [if_neg hb] at h | (simp only [hb, hT, reduceIte] at h) | skip
  repeat (first | (rw [iN] at h; obtain ⟨_, h⟩ := h) | (rw [iP] at h; obtain ⟨_, h⟩ := h) | (simp only [bS] at h))
  refine AWp.seq ?_
  refine AWp.region ?_
  refine L.Y Y.mv ?_
  refine L.M (M.bs Tryd.underlying22 Y3) ?_
  replace h := Option.bind_eq_some_iff.1 h
  obtain ⟨⟨t518, t519, t520⟩, hc3, h⟩ := h
  dsimp only at h
  refine L.C ?_
  refine C.frz 1 ?_
  refine C.callE (l := false) [0] Tryd.func93 (spec_l1Cur_among.ac _ _ _ _ _ _ _ hc3) (H.c .nil) ?_
  refine L.Y Y.asg ?_
  refine AList.nil ?_
  simp only [Option.some.injEq, Prod.mk.injEq] at h
  obtain ⟨rfl, rfl, rfl⟩ := h
  refine AWp.ret ?_
  exact ⟨.inr rfl, [(2, _)], _, ⟨rfl, rfl⟩, IsPart.at [] [0] base1 (H.c .nil) (E.c .nil)⟩
 ·
  have hb2 := hb
  try simp only [hS, hE, ne_eq] at hb
  first | rw [if_pos hb2] at h | rw [if_neg (Bool.eq_false_iff.1 hb2)] at h | rw [if_pos hb] at h | rw [if_neg hb] at h | (simp only [hb, hT, reduceIte] at h) | skip
  refine AWp.skip ?_
  refine AWp.seq ?_
  refine AWp.region ?_
  refine L.Y Y.mv ?_
  replace h := Option.bind_eq_some_iff.1 h
  obtain ⟨⟨t521, t522, t523⟩, hc4, h⟩ := h
  dsimp only at h
  refine L.C (C.callE (l := false) [0] Tryd.func94 (spec_l1Cur_pick.ac _ _ _ _ _ _ _ hc4) (H.c .nil) ?_)
  refine L.Y Y.asg ?_
  refine AList.nil ?_
  simp only [Option.some.injEq, Prod.mk.injEq] at h
  obtain ⟨rfl, rfl, rfl⟩ := h
  refine AWp.ret ?_
  exact ⟨.inr rfl, [(2, _)], _, ⟨rfl, rfl⟩, IsPart.at [] [0] base1 (H.c .nil) (E.c .nil)⟩

/-! ### spec_DrawNearestOf: function 17 -/
def spec_DrawNearestOf.f (k : Nat) (l0 : List Int) : Option (Int × List Int × Int) := (spec_l1Cur_one.f l0 0 0 4).bind fun bt526 => (if bt526.1 = true then ((spec_l1Cur_anyOrder.f k l0 bt526.2.1 bt526.2.2 4).bind fun bt529 => ((spec_l1Cur_kind.f l0 bt529.2.2.1 bt529.2.2.2).bind fun bt535 => (some (bt529.1, bt529.2.1, bt535.1)))) else ((spec_l1Cur_among.f l0 bt526.2.1 bt526.2.2 (([2, 3, 3, 4, 5] : List Int))).bind fun bt541 => ((spec_l1Cur_relation.f k l0 bt541.2.1 bt541.2.2 bt541.1).bind fun bt544 => ((spec_l1Cur_kind.f l0 bt544.2.2.1 bt544.2.2.2).bind fun bt550 => (some (bt544.1, bt544.2.1, bt550.1))))))
set_option maxRecDepth 100000 in
set_option maxHeartbeats 20000000 in
theorem spec_DrawNearestOf.ac (k : Nat) (l0 : List Int) (r1 : Int) (r2 : List Int) (r3 : Int) (h : spec_DrawNearestOf.f k l0 = some (r1, r2, r3)) :
  ACalls Tryd.prog 17 [.row 1 l0.length false (ints .u8 l0)] [] (fun v H' => v = .tup [.agg [.lit (.int .i64 r1), .own 0 r2.length], .lit (.int .i64 r3)] ∧ H' = [.sl 3 1 r2.length false (ints .i64 r2)]) := by
 refine ACalls.ofV Tryd.func17 rfl (by exact Nat.le_of_ble_eq_true rfl) ?_
 simp only [Tryd.ntmps17, env0, spec_DrawNearestOf.f] at h ⊢
 refine AWp.seq ?_
 refine AWp.region ?_
 refine L.M (M.al Y26) ?_
 refine L.Y Y.asg ?_
 refine AList.nil ?_
 refine AWp.seq ?_
 refine AWp.region ?_
 refine L.Y Y.mv ?_
 refine L.Y (Y.bd Tryd.underlying106 Y106 P106) ?_
 refine L.M M.bx ?_
 refine L.Y Y.asg ?_
 refine AList.nil ?_
 refine AWp.seq ?_
 refine AWp.seq ?_
 refine AWp.region ?_
 refine L.Y Y.mv ?_
 replace h := Option.bind_eq_some_iff.1 h
 obtain ⟨⟨t526, t527, t528⟩, hc1, h⟩ := h
 dsimp only at h
 refine L.C (C.callE (l := false) [1] Tryd.func89 (spec_l1Cur_one.ac _ _ _ _ _ _ _ hc1) (H.c .nil) ?_)
 refine AList.nil ?_
 refine W.cond (fun hb => ?_) (fun hb => ?_)
 ·
  have hb2 := hb
  try simp only [hS, hE, ne_eq] at hb
  first | rw [if_pos hb2] at h | rw [if_neg (Bool.eq_false_iff.1 hb2)] at h | rw [if_pos hb] at h | rw [if_neg hb] at h | (simp only [hb, hT, reduceIte] at h) | skip
  refine AWp.seq ?_
  refine W.kp [0, 2, 3, 4, 9] ?_
  refine AWp.region ?_
  refine L.Y Y.mv ?_
  replace h := Option.bind_eq_some_iff.1 h
  obtain ⟨⟨t529, t530, t533, t534⟩, hc3, h⟩ := h
  dsimp only at h
  refine L.C (C.callE (l := false) [1] Tryd.func90 (spec_l1Cur_anyOrder.ac _ _ _ _ _ _ _ _ _ hc3) (H.c .nil) ?_)
  refine L.Y Y.mv ?_
  replace h := Option.bind_eq_some_iff.1 h
  obtain ⟨⟨t535, t536, t537⟩, hc4, h⟩ := h
  dsimp only at h
  refine L.C (C.callE (l := false) [1] Tryd.func91 (spec_l1Cur_kind.ac _ _ _ _ _ _ hc4) (H.c .nil) ?_)
  refine L.S (S.stb Y26) ?_
  refine L.Y Y.asg ?_
  refine AList.nil ?_
  simp only [Option.some.injEq, Prod.mk.injEq] at h
  obtain ⟨rfl, rfl, rfl⟩ := h
  refine AWp.ret ?_
  exact ⟨.inr rfl, _, _, _, Res.c2 Tryd.underlying26 Y26, ⟨rfl, rfl⟩, PartV.at [] [2] base0 (H.c .nil)⟩
 ·
  have hb2 := hb
  try simp only [hS, hE, ne_eq] at hb
  first | rw [if_pos hb2] at h | rw [if_neg (Bool.eq_false_iff.1 hb2)] at h | rw [if_pos hb] at h | rw [if_neg hb] at h | (simp only [hb, hT, reduceIte] at h) | skip
  repeat (first | (rw [iN] at h; obtain ⟨_, h⟩ := h) | (rw [iP] at h; obtain ⟨_, h⟩ := h) | (simp only [bS] at h))
  refine AWp.skip ?_
  refine AWp.seq ?_
  refine W.kp [0, 2, 3, 4, 9] ?_
  refine AWp.region ?_
  refine L.Y Y.mv ?_
  refine L.Y Y.mv ?_
  refine L.M (M.bs Tryd.underlying22 Y3) ?_
  replace h := Option.bind_eq_some_iff.1 h
  obtain ⟨⟨t541, t542, t543⟩, hc5, h⟩ := h
  dsimp only at h
  refine L.C ?_
  refine C.frz 2 ?_
  refine C.callE (l := false) [1] Tryd.func93 (spec_l1Cur_among.ac _ _ _ _ _ _ _ hc5) (H.c .nil) ?_
  replace h := Option.bind_eq_some_iff.1 h
  obtain ⟨⟨t544, t545, t548, t549⟩, hc6, h⟩ := h
  dsimp only at h
  refine L.C (C.callE (l := false) [1] Tryd.func92 (spec_l1Cur_relation.ac _ _ _ _ _ _ _ _ _ hc6) (H.c .nil) ?_)
  refine L.Y Y.mv ?_
  replace h := Option.bind_eq_some_iff.1 h
  obtain ⟨⟨t550, t551, t552⟩, hc7, h⟩ := h
  dsimp only at h
  refine L.C (C.callE (l := false) [1] Tryd.func91 (spec_l1Cur_kind.ac _ _ _ _ _ _ hc7) (H.c .nil) ?_)
  refine L.S (S.stb Y26) ?_
  refine L.Y Y.asg ?_
  refine AList.nil ?_
  simp only [Option.some.injEq, Prod.mk.injEq] at h
  obtain ⟨rfl, rfl, rfl⟩ := h
  refine AWp.ret ?_
  exact ⟨.inr rfl, _, _, _, Res.c2 Tryd.underlying26 Y26, ⟨rfl, rfl⟩, PartV.at [] [3] base0 (H.c .nil)⟩

/-! ### laws_vSame: function 29 -/
def laws_vSame.l0 : Nat → List Int → List Int → Int → Int → Option (Bool)
 | 0, _, _, _, _ => none
 | k + 1, x0, x1, x12, x13 => if x13 < x12 then (if 0 ≤ x13 then (if x13 < (x0.length : Int) then (if x13 < (x1.length : Int) then (if (rd x0 x13) = (rd x1 x13) then (laws_vSame.l0 k x0 x1 x12 (wrap64 (x13 + 1))) else (some false)) else (none)) else (none)) else (none)) else (some true)
def laws_vSame.f (k : Nat) (l0 : List Int) (l1 : List Int) : Option (Bool) := if (l0.length : Int) = (l1.length : Int) then (laws_vSame.l0 k l0 l1 (l0.length : Int) 0) else (some false)
set_option maxRecDepth 100000 in
set_option maxHeartbeats 20000000 in
theorem laws_vSame.ac (k : Nat) (l0 : List Int) (l1 : List Int) (r : Bool) (h : laws_vSame.f k l0 l1 = some r) :
  ACalls Tryd.prog 29 [.row 1 l0.length false (ints .i64 l0), .row 1 l1.length false (ints .i64 l1)] [] (fun v H' => v = .lit (.bool r) ∧ H' = []) := by
 refine ACalls.ofP [4] Tryd.func29 rfl (by exact Nat.le_of_ble_eq_true rfl) rfl (by decide) ?_
 simp only [Tryd.ntmps29, env0, laws_vSame.f] at h ⊢
 refine AWp.seq ?_
 refine AWp.region ?_
 refine L.Y Y.asg ?_
 refine AList.nil ?_
 refine AWp.seq ?_
 refine AWp.seq ?_
 refine AWp.region ?_
 refine L.Y Y.mv ?_
 refine L.Y (Y.ln Tryd.underlying22) ?_
 refine L.Y Y.mv ?_
 refine L.Y (Y.ln Tryd.underlying22) ?_
 refine L.Y Y.bin ?_
 refine AList.nil ?_
 refine W.cond (fun hb => ?_) (fun hb => ?_)
 ·
  have hb1 := hb
  try simp only [hS, hE, ne_eq] at hb
  first | rw [if_pos hb1] at h | rw [if_neg (Bool.eq_false_iff.1 hb1)] at h | rw [if_pos hb] at h | rw [if_neg hb] at h | (simp only [hb, hT, reduceIte] at h) | skip
  refine AWp.seq ?_
  refine W.kp [0, 1, 4, 10] ?_
  refine AWp.region ?_
  refine L.Y Y.asg ?_
  refine AList.nil ?_
  obtain rfl := Option.some.inj h
  refine AWp.ret ?_
  exact ⟨.inr rfl, [(4, _)], _, ⟨rfl, rfl⟩, IsPart.at [] [] base0 .nil (E.c .nil)⟩
 ·
  have hb1 := hb
  try simp only [hS, hE, ne_eq] at hb
  first | rw [if_pos hb1] at h | rw [if_neg (Bool.eq_false_iff.1 hb1)] at h | rw [if_pos hb] at h | rw [if_neg hb] at h | (simp only [hb, hT, reduceIte] at h) | skip
  refine AWp.skip ?_
  refine AWp.seq ?_
  refine AWp.seq ?_
  refine W.kp [0, 1, 4, 10] ?_
  refine AWp.region ?_
  refine L.Y Y.mv ?_
  refine L.Y (Y.ln Tryd.underlying22) ?_
  refine L.Y Y.mv ?_
  refine AList.nil ?_
  refine AWp.block ?_
  refine AWp.loopI (fun kk e H => kk ≤ k ∧ ∃ (x12 : Int) (x13 : Int), e = [(0, .row 1 l0.length false (ints .i64 l0)), (1, .row 1 l1.length false (ints .i64 l1)), (12, .lit (.int .i64 x12)), (13, .lit (.int .i64 x13))] ∧ H = [] ∧ laws_vSame.l0 kk l0 l1 x12 x13 = some r) (k := k)
   ⟨_, _, ⟨Nat.le_refl _, _, _, rfl, rfl, h⟩, IsPart.at [] [] base0 .nil (E.c (E.c (E.c (E.c .nil))))⟩ ?_
  clear h
  rintro k2 e H ⟨hk3, x12, x13, rfl, rfl, h⟩
  cases k2 with
  | zero => exact absurd h (by simp [laws_vSame.l0])
  | succ k2 =>
  simp only [laws_vSame.l0] at h
  refine AWp.seq ?_
  refine AWp.region ?_
  refine L.Y Y.bin ?_
  refine AList.nil ?_
  refine AWp.seq ?_
  refine W.cond (fun hb => ?_) (fun hb => ?_)
  ·
   have hb4 := hb
   try simp only [hS, hE, ne_eq] at hb
   first | rw [if_pos hb4] at h | rw [if_neg (Bool.eq_false_iff.1 hb4)] at h | rw [if_pos hb] at h | rw [if_neg hb] at h | (simp only [hb, hT, reduceIte] at h) | skip
   repeat (first | (rw [iN] at h; obtain ⟨_, h⟩ := h) | (rw [iP] at h; obtain ⟨_, h⟩ := h) | (simp only [bS] at h))
   refine AWp.skip ?_
   refine AWp.seq ?_
   refine AWp.block ?_
   refine AWp.seq ?_
   refine AWp.region ?_
   refine L.Y Y.mv ?_
   refine L.Y Y.asg ?_
   refine AList.nil ?_
   refine AWp.seq ?_
   refine Dt.reg [] [] (.y 0 (.y 1 (.y 2 (.t 3 (.y 4 (.y 5 (.y 6 (.t 7 (.y 8 .done))))))))) HM ?_
   refine Dt.Y rfl wantN Y.mv ?_
   refine Dt.Y rfl wantN Y.mv ?_
   refine Dt.Y rfl wantN (Y.ixr Tryd.underlying22 Y3) ?_
   refine Dt.T rfl wantN (D.ld Tryd.underlying3) ?_
   refine Dt.Y rfl wantN Y.mv ?_
   refine Dt.Y rfl wantN Y.mv ?_
   refine Dt.Y rfl wantN (Y.ixr Tryd.underlying22 Y3) ?_
   refine Dt.T rfl wantN (D.ld Tryd.underlying3) ?_
   refine Dt.Y rfl wantN Y.bin ?_
   refine Dt.nil ?_
   refine W.cond (fun hb => ?_) (fun hb => ?_)
   ·
    have hb5 := hb
    try simp only [hS, hE, ne_eq] at hb
    first | rw [if_pos hb5] at h | rw [if_neg (Bool.eq_false_iff.1 hb5)] at h | rw [if_pos hb] at h | rw [if_neg hb] at h | (simp only [hb, hT, reduceIte] at h) | skip
    refine AWp.seq ?_
    refine W.kp [0, 1, 5, 12, 13, 14, 24] ?_
    refine AWp.region ?_
    refine L.Y Y.asg ?_
    refine AList.nil ?_
    obtain rfl := Option.some.inj h
    refine AWp.ret ?_
    exact ⟨.inr rfl, [(4, _)], _, ⟨rfl, rfl⟩, IsPart.at [] [] base0 .nil (E.c .nil)⟩
   ·
    have hb5 := hb
    try simp only [hS, hE, ne_eq] at hb
    first | rw [if_pos hb5] at h | rw [if_neg (Bool.eq_false_iff.1 hb5)] at h | rw [if_pos hb] at h | rw [if_neg hb] at h | (simp only [hb, hT, reduceIte] at h) | skip
    refine AWp.skip ?_
    refine W.kp [0, 1, 5, 12, 13, 14, 24] ?_
    refine AWp.region ?_
    refine L.Y Y.bin ?_
    refine L.Y Y.mv ?_
    refine AList.nil ?_
    exact ⟨k2, by omega, _, _, ⟨by omega, _, _, rfl, rfl, h⟩, IsPart.at [] [] base0 .nil (E.c (E.c (E.c (E.c .nil))))⟩
  ·
   have hb4 := hb
   try simp only [hS, hE, ne_eq] at hb
   first | rw [if_pos hb4] at h | rw [if_neg (Bool.eq_false_iff.1 hb4)] at h | rw [if_pos hb] at h | rw [if_neg hb] at h | (simp only [hb, hT, reduceIte] at h) | skip
   refine AWp.exit ?_
   refine AWp.seq ?_
   refine AWp.region ?_
   refine L.Y Y.asg ?_
   refine AList.nil ?_
   obtain rfl := Option.some.inj h
   refine AWp.ret ?_
   exact ⟨.inr rfl, [(4, _)], _, ⟨rfl, rfl⟩, IsPart.at [] [] base0 .nil (E.c .nil)⟩

/-! ### laws_vOrder: function 18 -/
def laws_vOrder.f (k : Nat) (a0_0 : Int) (l0_1 : List Int) (a1_0 : Int) (l1_1 : List Int) : Option (Bool) := if a0_0 = a1_0 then ((laws_vSame.f k l0_1 l1_1).bind fun t557 => (some t557)) else (some false)
set_option maxRecDepth 100000 in
set_option maxHeartbeats 20000000 in
theorem laws_vOrder.ac (k : Nat) (a0_0 : Int) (l0_1 : List Int) (a1_0 : Int) (l1_1 : List Int) (r : Bool) (h : laws_vOrder.f k a0_0 l0_1 a1_0 l1_1 = some r) :
  ACalls Tryd.prog 18 [.agg [.lit (.int .i64 a0_0), .row 1 l0_1.length false (ints .i64 l0_1)], .agg [.lit (.int .i64 a1_0), .row 1 l1_1.length false (ints .i64 l1_1)]] [] (fun v H' => v = .lit (.bool r) ∧ H' = []) := by
 refine ACalls.ofP [4] Tryd.func18 rfl (by exact Nat.le_of_ble_eq_true rfl) rfl (by decide) ?_
 simp only [Tryd.ntmps18, env0, laws_vOrder.f] at h ⊢
 refine AWp.seq ?_
 refine AWp.region ?_
 refine L.M M.bx ?_
 refine L.M M.bx ?_
 refine L.Y Y.asg ?_
 refine AList.nil ?_
 refine AWp.seq ?_
 refine AWp.region ?_
 refine L.Y (Y.fa (off := 0) Tryd.underlying26 Y3) ?_
 refine L.S (S.ld Tryd.underlying3) ?_
 refine L.Y (Y.fa (off := 0) Tryd.underlying26 Y3) ?_
 refine L.S (S.ld Tryd.underlying3) ?_
 refine L.Y Y.bin ?_
 refine L.Y Y.mv ?_
 refine L.Gc (fun hb => ?_) (fun hb => ?_)
 ·
  have hb1 := hb
  try simp only [hS, hE, ne_eq] at hb
  first | rw [if_pos hb1] at h | rw [if_neg (Bool.eq_false_iff.1 hb1)] at h | rw [if_pos hb] at h | rw [if_neg hb] at h | (simp only [hb, hT, reduceIte] at h) | skip
  refine L.Gy hb1 (Y.fa (off := 1) Tryd.underlying26 Y22) ?_
  refine L.Gs hb1 (S.ld Tryd.underlying22) ?_
  refine L.Gy hb1 (Y.fa (off := 1) Tryd.underlying26 Y22) ?_
  refine L.Gs hb1 (S.ld Tryd.underlying22) ?_
  replace h := Option.bind_eq_some_iff.1 h
  obtain ⟨t557, hc2, h⟩ := h
  refine L.GC hb1 (C.callE (l := true) [] Tryd.func29 (laws_vSame.ac _ _ _ _ hc2) .nil ?_)
  refine L.Y (Y.pk (c := true) hb1) ?_
  refine L.Y Y.asg ?_
  refine AList.nil ?_
  obtain rfl := Option.some.inj h
  refine AWp.ret ?_
  exact ⟨.inr rfl, [(4, _)], _, ⟨rfl, rfl⟩, IsPart.at [] [] base0 .nil (E.c .nil)⟩
 ·
  have hb1 := hb
  try simp only [hS, hE, ne_eq] at hb
  first | rw [if_pos hb1] at h | rw [if_neg (Bool.eq_false_iff.1 hb1)] at h | rw [if_pos hb] at h | rw [if_neg hb] at h | (simp only [hb, hT, reduceIte] at h) | skip
  refine L.Gn hb1 ?_
  refine L.Gn hb1 ?_
  refine L.Gn hb1 ?_
  refine L.Gn hb1 ?_
  refine L.Gn hb1 ?_
  refine L.Y (Y.pk (c := false) hb1) ?_
  refine L.Y Y.asg ?_
  refine AList.nil ?_
  obtain rfl := Option.some.inj h
  refine AWp.ret ?_
  exact ⟨.inr rfl, [(4, _)], _, ⟨rfl, rfl⟩, IsPart.at [] [] base0 .nil (E.c .nil)⟩

/-! ### impl_PairsApart: function 19 -/
def impl_PairsApart.f (k : Nat) (a0_0 : Int) (l0_1 : List Int) (a1_0 : Int) (l1_1 : List Int) : Option (Int × Bool) := (impl_IsRelation.f k a0_0 l0_1).bind fun t560 => (if t560 = true then ((impl_IsRelation.f k a1_0 l1_1).bind fun t561 => (if t561 = true then (if a0_0 = a1_0 then ((impl_apart.f k a0_0 l0_1 a1_0 l1_1).bind fun t562 => (some (t562, true))) else (some (0, false))) else (some (0, false)))) else (some (0, false)))
set_option maxRecDepth 100000 in
set_option maxHeartbeats 20000000 in
theorem impl_PairsApart.ac (k : Nat) (a0_0 : Int) (l0_1 : List Int) (a1_0 : Int) (l1_1 : List Int) (r1 : Int) (r2 : Bool) (h : impl_PairsApart.f k a0_0 l0_1 a1_0 l1_1 = some (r1, r2)) :
  ACalls Tryd.prog 19 [.agg [.lit (.int .i64 a0_0), .row 1 l0_1.length false (ints .i64 l0_1)], .agg [.lit (.int .i64 a1_0), .row 1 l1_1.length false (ints .i64 l1_1)]] [] (fun v H' => v = .tup [.lit (.int .i64 r1), .lit (.bool r2)] ∧ H' = []) := by
 refine ACalls.ofP [4, 5] Tryd.func19 rfl (by exact Nat.le_of_ble_eq_true rfl) rfl (by decide) ?_
 simp only [Tryd.ntmps19, env0, impl_PairsApart.f] at h ⊢
 refine AWp.seq ?_
 refine AWp.region ?_
 refine L.M M.bx ?_
 refine L.M M.bx ?_
 refine L.Y Y.asg ?_
 refine L.Y Y.asg ?_
 refine AList.nil ?_
 refine AWp.seq ?_
 refine AWp.seq ?_
 refine AWp.region ?_
 refine L.S (S.ldN Tryd.underlying26 Y26) ?_
 replace h := Option.bind_eq_some_iff.1 h
 obtain ⟨t560, hc1, h⟩ := h
 refine L.C (C.callE (l := true) [] Tryd.func82 (impl_IsRelation.ac _ _ _ _ hc1) .nil ?_)
 refine L.Y Y.nt ?_
 refine L.Y Y.mv ?_
 refine L.Gc (fun hb => ?_) (fun hb => ?_)
 ·
  have hb2 := hb
  try simp only [hS, hE, ne_eq] at hb
  first | rw [if_pos hb2] at h | rw [if_neg (Bool.eq_false_iff.1 hb2)] at h | rw [if_pos hb] at h | rw [if_neg hb] at h | (simp only [hb, hT, reduceIte] at h) | skip
  refine L.Gn hb2 ?_
  refine L.Gn hb2 ?_
  refine L.Gn hb2 ?_
  refine L.Y (Y.pk (c := true) hb2) ?_
  refine L.Y Y.mv ?_
  refine L.Gc (fun hb => ?_) (fun hb => ?_)
  rotate_left
  ·
   first | exact Bool.false_ne_true ((Eq.symm (by assumption)).trans hb) | exact Bool.false_ne_true (hb.symm.trans (by assumption)) | exact DD hb
  have hb3 := hb
  refine L.Gn hb3 ?_
  refine L.Gn hb3 ?_
  refine L.Gn hb3 ?_
  refine L.Gn hb3 ?_
  refine L.Gn hb3 ?_
  refine L.Y (Y.pk (c := true) hb3) ?_
  refine AList.nil ?_
  refine W.cond (fun hb => ?_) (fun hb => ?_)
  rotate_left
  ·
   first | exact Bool.false_ne_true ((Eq.symm (by assumption)).trans hb) | exact Bool.false_ne_true (hb.symm.trans (by assumption)) | exact DD hb
  have hb4 := hb
  refine AWp.seq ?_
  refine W.kp [0, 1, 2, 3, 4, 5, 20] ?_
  refine AWp.region ?_
  refine L.Y Y.asg ?_
  refine L.Y Y.asg ?_
  refine AList.nil ?_
  simp only [Option.some.injEq, Prod.mk.injEq] at h
  obtain ⟨rfl, rfl⟩ := h
  refine AWp.ret ?_
  exact ⟨.inr rfl, [(4, _), (5, _)], _, ⟨rfl, rfl⟩, IsPart.at [] [] base0 .nil (E.c (E.c .nil))⟩
 ·
  have hb2 := hb
  try simp only [hS, hE, ne_eq] at hb
  first | rw [if_pos hb2] at h | rw [if_neg (Bool.eq_false_iff.1 hb2)] at h | rw [if_pos hb] at h | rw [if_neg hb] at h | (simp only [hb, hT, reduceIte] at h) | skip
  refine L.Gs hb2 (S.ldN Tryd.underlying26 Y26) ?_
  replace h := Option.bind_eq_some_iff.1 h
  obtain ⟨t561, hc5, h⟩ := h
  refine L.GC hb2 (C.callE (l := true) [] Tryd.func82 (impl_IsRelation.ac _ _ _ _ hc5) .nil ?_)
  refine L.Gy hb2 Y.nt ?_
  refine L.Y (Y.pk (c := false) hb2) ?_
  refine L.Y Y.mv ?_
  refine L.Gc (fun hb => ?_) (fun hb => ?_)
  ·
   have hb6 := hb
   try simp only [hS, hE, ne_eq] at hb
   first | rw [if_pos hb6] at h | rw [if_neg (Bool.eq_false_iff.1 hb6)] at h | rw [if_pos hb] at h | rw [if_neg hb] at h | (simp only [hb, hT, reduceIte] at h) | skip
   refine L.Gn hb6 ?_
   refine L.Gn hb6 ?_
   refine L.Gn hb6 ?_
   refine L.Gn hb6 ?_
   refine L.Gn hb6 ?_
   refine L.Y (Y.pk (c := true) hb6) ?_
   refine AList.nil ?_
   refine W.cond (fun hb => ?_) (fun hb => ?_)
   rotate_left
   ·
    first | exact Bool.false_ne_true ((Eq.symm (by assumption)).trans hb) | exact Bool.false_ne_true (hb.symm.trans (by assumption)) | exact DD hb
   have hb7 := hb
   refine AWp.seq ?_
   refine W.kp [0, 1, 2, 3, 4, 5, 20] ?_
   refine AWp.region ?_
   refine L.Y Y.asg ?_
   refine L.Y Y.asg ?_
   refine AList.nil ?_
   simp only [Option.some.injEq, Prod.mk.injEq] at h
   obtain ⟨rfl, rfl⟩ := h
   refine AWp.ret ?_
   exact ⟨.inr rfl, [(4, _), (5, _)], _, ⟨rfl, rfl⟩, IsPart.at [] [] base0 .nil (E.c (E.c .nil))⟩
  ·
   have hb6 := hb
   try simp only [hS, hE, ne_eq] at hb
   first | rw [if_pos hb6] at h | rw [if_neg (Bool.eq_false_iff.1 hb6)] at h | rw [if_pos hb] at h | rw [if_neg hb] at h | (simp only [hb, hT, reduceIte] at h) | skip
   refine L.Gy hb6 (Y.fa (off := 0) Tryd.underlying26 Y3) ?_
   refine L.Gs hb6 (S.ld Tryd.underlying3) ?_
   refine L.Gy hb6 (Y.fa (off := 0) Tryd.underlying26 Y3) ?_
   refine L.Gs hb6 (S.ld Tryd.underlying3) ?_
   refine L.Gy hb6 Y.bin ?_
   refine L.Y (Y.pk (c := false) hb6) ?_
   refine AList.nil ?_
   refine W.cond (fun hb => ?_) (fun hb => ?_)
   ·
    have hb8 := hb
    try simp only [hS, hE, ne_eq] at hb
    first | rw [if_pos hb8] at h | rw [if_neg (Bool.eq_false_iff.1 hb8)] at h | rw [if_pos hb] at h | rw [if_neg hb] at h | (simp only [hb, hT, reduceIte] at h) | skip
    refine AWp.seq ?_
    refine W.kp [0, 1, 2, 3, 4, 5, 20] ?_
    refine AWp.region ?_
    refine L.Y Y.asg ?_
    refine L.Y Y.asg ?_
    refine AList.nil ?_
    simp only [Option.some.injEq, Prod.mk.injEq] at h
    obtain ⟨rfl, rfl⟩ := h
    refine AWp.ret ?_
    exact ⟨.inr rfl, [(4, _), (5, _)], _, ⟨rfl, rfl⟩, IsPart.at [] [] base0 .nil (E.c (E.c .nil))⟩
   ·
    have hb8 := hb
    try simp only [hS, hE, ne_eq] at hb
    first | rw [if_pos hb8] at h | rw [if_neg (Bool.eq_false_iff.1 hb8)] at h | rw [if_pos hb] at h | rw [if_neg hb] at h | (simp only [hb, hT, reduceIte] at h) | skip
    refine AWp.skip ?_
    refine AWp.seq ?_
    refine W.kp [0, 1, 2, 3, 4, 5, 20] ?_
    refine AWp.region ?_
    refine L.S (S.ldN Tryd.underlying26 Y26) ?_
    refine L.S (S.ldN Tryd.underlying26 Y26) ?_
    replace h := Option.bind_eq_some_iff.1 h
    obtain ⟨t562, hc9, h⟩ := h
    refine L.C (C.callE (l := true) [] Tryd.func85 (impl_apart.ac _ _ _ _ _ _ hc9) .nil ?_)
    refine L.Y Y.asg ?_
    refine L.Y Y.asg ?_
    refine AList.nil ?_
    simp only [Option.some.injEq, Prod.mk.injEq] at h
    obtain ⟨rfl, rfl⟩ := h
    refine AWp.ret ?_
    exact ⟨.inr rfl, [(4, _), (5, _)], _, ⟨rfl, rfl⟩, IsPart.at [] [] base0 .nil (E.c (E.c .nil))⟩

/-! ### impl_OrdersOf: function 20 -/
def impl_OrdersOf.f (k : Nat) (a0 : Int) (a1 : Int) : Option ((List (S26)) × Bool) := (impl_isChoiceKind.f a0 a1).bind fun t563 => (if t563 = true then ((impl_ordersOf.f k a0 a1).bind fun t564 => (some (t564, true))) else (some (([] : List (S26)), false)))
set_option maxRecDepth 100000 in
set_option maxHeartbeats 20000000 in
theorem impl_OrdersOf.ac (k : Nat) (a0 : Int) (a1 : Int) (r1 : List (S26)) (r2 : Bool) (h : impl_OrdersOf.f k a0 a1 = some (r1, r2)) :
  ACalls Tryd.prog 20 [.lit (.int .i64 a0), .lit (.int .i64 a1)] [] (fun v H' => v = .tup [.own 0 r1.length, .lit (.bool r2)] ∧ H' = [.sl 26 2 r1.length false (Enc.cells r1)]) := by
 refine ACalls.ofP [4, 5] Tryd.func20 rfl (by exact Nat.le_of_ble_eq_true rfl) rfl (by decide) ?_
 simp only [Tryd.ntmps20, env0, impl_OrdersOf.f] at h ⊢
 refine AWp.seq ?_
 refine AWp.region ?_
 refine L.Y Y.asg ?_
 refine L.Y Y.asg ?_
 refine AList.nil ?_
 refine AWp.seq ?_
 refine AWp.seq ?_
 refine AWp.region ?_
 refine L.Y Y.mv ?_
 refine L.Y Y.mv ?_
 replace h := Option.bind_eq_some_iff.1 h
 obtain ⟨t563, hc1, h⟩ := h
 refine L.C (C.callE (l := true) [] Tryd.func83 (impl_isChoiceKind.ac _ _ _ hc1) .nil ?_)
 refine L.Y Y.nt ?_
 refine AList.nil ?_
 refine W.cond (fun hb => ?_) (fun hb => ?_)
 ·
  have hb2 := hb
  try simp only [hS, hE, ne_eq] at hb
  first | rw [if_pos hb2] at h | rw [if_neg (Bool.eq_false_iff.1 hb2)] at h | rw [if_pos hb] at h | rw [if_neg hb] at h | (simp only [hb, hT, reduceIte] at h) | skip
  refine AWp.seq ?_
  refine AWp.region ?_
  refine L.Y Y.asg ?_
  refine L.Y Y.asg ?_
  refine AList.nil ?_
  simp only [Option.some.injEq, Prod.mk.injEq] at h
  obtain ⟨rfl, rfl⟩ := h
  refine AWp.ret ?_
  exact ⟨.inr rfl, [(4, _), (5, _)], _, ⟨rfl, rfl⟩, IsPart.at [(26, 2)] [0] base0 (H.c .nil) (E.c (E.c .nil))⟩
 ·
  have hb2 := hb
  try simp only [hS, hE, ne_eq] at hb
  first | rw [if_pos hb2] at h | rw [if_neg (Bool.eq_false_iff.1 hb2)] at h | rw [if_pos hb] at h | rw [if_neg hb] at h | (simp only [hb, hT, reduceIte] at h) | skip
  refine AWp.skip ?_
  refine AWp.seq ?_
  refine AWp.region ?_
  refine L.Y Y.mv ?_
  refine L.Y Y.mv ?_
  replace h := Option.bind_eq_some_iff.1 h
  obtain ⟨t564, hc3, h⟩ := h
  refine L.C (C.callE (l := false) [] Tryd.func84 (impl_ordersOf.ac _ _ _ _ hc3) .nil ?_)
  refine L.Y Y.asg ?_
  refine L.Y Y.asg ?_
  refine AList.nil ?_
  simp only [Option.some.injEq, Prod.mk.injEq] at h
  obtain ⟨rfl, rfl⟩ := h
  refine AWp.ret ?_
  exact ⟨.inr rfl, [(4, _), (5, _)], _, ⟨rfl, rfl⟩, IsPart.at [] [0] base0 (H.c .nil) (E.c (E.c .nil))⟩

/-! ### spec_DrawPairsApart: function 21 -/
mutual
def spec_DrawPairsApart.j0 : Nat → Bool → List Int → Int → Int → Int → List Int → Option (Int × List Int × Int × List Int)
 | 0, _, _, _, _, _, _ => none
 | k + 1, x18, x570000, x570001, x570002, x577000, x577001 => if x18 = true then ((spec_l1Cur_anyOrder.f k x570000 x570001 x570002 6).bind fun bt581 => (some (x577000, x577001, bt581.1, bt581.2.1))) else (spec_DrawPairsApart.l0 k (x577001.length : Int) 0 x570000 x570001 x570002 x577000 x577001 x577000 ([] : List Int))
def spec_DrawPairsApart.l0 : Nat → Int → Int → List Int → Int → Int → Int → List Int → Int → List Int → Option (Int × List Int × Int × List Int)
 | 0, _, _, _, _, _, _, _, _, _ => none
 | k + 1, x27, x28, x570000, x570001, x570002, x577000, x577001, x588000, x588001 => if x28 < x27 then (if 0 ≤ x577000 then ((spec_l1Cur_pick.f x570000 x570001 x570002 (shl .i64 1 x577000)).bind fun bt588 => (if x588001.length < 17592186044416 then (spec_DrawPairsApart.l0 k x27 (wrap64 (x28 + 1)) x570000 bt588.2.1 bt588.2.2 x577000 x577001 x588000 (x588001 ++ [bt588.1])) else (none))) else (none)) else (some (x577000, x577001, x588000, x588001))
end
def spec_DrawPairsApart.f (k : Nat) (l0 : List Int) : Option (Int × List Int × Int × List Int) := (spec_l1Cur_relation.f k l0 0 0 6).bind fun bt570 => ((spec_orRelation.f k bt570.1 bt570.2.1).bind fun t577 => (if t577 = true then ((spec_l1Cur_one.f l0 bt570.2.2.1 bt570.2.2.2 8).bind fun bt578 => (spec_DrawPairsApart.j0 k bt578.1 l0 bt578.2.1 bt578.2.2 bt570.1 bt570.2.1)) else (spec_DrawPairsApart.j0 k true l0 bt570.2.2.1 bt570.2.2.2 bt570.1 bt570.2.1)))
set_option maxRecDepth 100000 in
set_option maxHeartbeats 20000000 in
theorem spec_DrawPairsApart.ac (k : Nat) (l0 : List Int) (r1 : Int) (r2 : List Int) (r3 : Int) (r4 : List Int) (h : spec_DrawPairsApart.f k l0 = some (r1, r2, r3, r4)) :
  ACalls Tryd.prog 21 [.row 1 l0.length false (ints .u8 l0)] [] (fun v H' => v = .tup [.agg [.lit (.int .i64 r1), .own 0 r2.length], .agg [.lit (.int .i64 r3), .own 1 r4.length]] ∧ H' = [.sl 3 1 r2.length false (ints .i64 r2), .sl 3 1 r4.length false (ints .i64 r4)]) := by
 refine ACalls.ofV Tryd.func21 rfl (by exact Nat.le_of_ble_eq_true rfl) ?_
 simp only [Tryd.ntmps21, env0, spec_DrawPairsApart.f] at h ⊢
 refine AWp.seq ?_
 refine AWp.region ?_
 refine L.M (M.al Y26) ?_
 refine L.M (M.al Y26) ?_
 refine AList.nil ?_
 refine AWp.seq ?_
 refine AWp.region ?_
 refine L.Y Y.mv ?_
 refine L.Y (Y.bd Tryd.underlying106 Y106 P106) ?_
 refine L.M M.bx ?_
 refine L.Y Y.asg ?_
 refine AList.nil ?_
 refine AWp.seq ?_
 refine AWp.region ?_
 refine L.Y Y.mv ?_
 replace h := Option.bind_eq_some_iff.1 h
 obtain ⟨⟨t570, t571, t574, t575⟩, hc1, h⟩ := h
 dsimp only at h
 refine L.C (C.callE (l := false) [2] Tryd.func92 (spec_l1Cur_relation.ac _ _ _ _ _ _ _ _ _ hc1) (H.c .nil) ?_)
 refine L.M (M.al Y26) ?_
 refine L.S (S.stb Y26) ?_
 refine AList.nil ?_
 refine AWp.seq ?_
 refine AWp.seq ?_
 refine W.kp [0, 2, 3, 4, 5] ?_
 refine AWp.region ?_
 refine L.S (S.ldN Tryd.underlying26 Y26) ?_
 replace h := Option.bind_eq_some_iff.1 h
 obtain ⟨t577, hc2, h⟩ := h
 refine L.C (C.callE (l := true) [] Tryd.func76 (spec_orRelation.ac _ _ _ _ hc2) .nil ?_)
 refine L.Y Y.nt ?_
 refine L.Y Y.mv ?_
 refine L.Gc (fun hb => ?_) (fun hb => ?_)
 ·
  have hb3 := hb
  try simp only [hS, hE, ne_eq] at hb
  first | rw [if_pos hb3] at h | rw [if_neg (Bool.eq_false_iff.1 hb3)] at h | rw [if_pos hb] at h | rw [if_neg hb] at h | (simp only [hb, hT, reduceIte] at h) | skip
  refine L.Gn hb3 ?_
  refine L.Gn hb3 ?_
  refine L.Y (Y.pk (c := true) hb3) ?_
  refine AList.nil ?_
  rcases k with _ | k
  ·
   exact absurd h (by simp [spec_DrawPairsApart.j0])
  simp only [spec_DrawPairsApart.j0] at h
  refine W.cond (fun hb => ?_) (fun hb => ?_)
  rotate_left
  ·
   first | exact Bool.false_ne_true ((Eq.symm (by assumption)).trans hb) | exact Bool.false_ne_true (hb.symm.trans (by assumption)) | exact DD hb
  have hb4 := hb
  try (first | rw [if_pos hb4] at h | rw [if_neg (Bool.eq_false_iff.1 hb4)] at h | rw [if_pos hb] at h | rw [if_neg hb] at h | (simp only [hb, hT, reduceIte] at h) | skip)
  refine AWp.seq ?_
  refine W.kp [0, 2, 3, 4, 5, 18] ?_
  refine Dt.reg [false, false, true] [3, 4] (.t 0 (.y 1 (.one 2 (.last 3 (.one 4 .done))))) HM ?_
  refine Dt.T rfl wantN (D.ldN Tryd.underlying26 Y26) ?_
  refine Dt.Y rfl wantN Y.mv ?_
  refine Dt.O (g' := true) rfl wantN ?_
  replace h := Option.bind_eq_some_iff.1 h
  obtain ⟨⟨t581, t582, t585, t586⟩, hc5, h⟩ := h
  dsimp only at h
  refine Ox.C false [2] Tryd.func90 (spec_l1Cur_anyOrder.ac _ _ _ _ _ _ _ _ _ hc5) (H.c .nil) ?_
  refine Dt.L rfl wantN ?_
  refine Op.S (S.stb Y26) ?_
  refine Du.L rfl wantN ?_
  refine Op.S (S.stb Y26) ?_
  refine Du.nil ?_
  simp only [Option.some.injEq, Prod.mk.injEq] at h
  obtain ⟨rfl, rfl, rfl, rfl⟩ := h
  refine AWp.ret ?_
  exact ⟨.inr rfl, _, _, _, Res.n2 (Res1.cl (p := 2) Tryd.underlying26 Y26) (Res1.cl (p := 3) Tryd.underlying26 Y26), ⟨rfl, rfl⟩, PartV.at [] [3, 5] base0 (H.c (H.c .nil))⟩
 ·
  have hb3 := hb
  try simp only [hS, hE, ne_eq] at hb
  first | rw [if_pos hb3] at h | rw [if_neg (Bool.eq_false_iff.1 hb3)] at h | rw [if_pos hb] at h | rw [if_neg hb] at h | (simp only [hb, hT, reduceIte] at h) | skip
  refine L.Gy hb3 Y.mv ?_
  replace h := Option.bind_eq_some_iff.1 h
  obtain ⟨⟨t578, t579, t580⟩, hc6, h⟩ := h
  dsimp only at h
  refine L.GC hb3 (C.callE (l := false) [2] Tryd.func89 (spec_l1Cur_one.ac _ _ _ _ _ _ _ hc6) (H.c .nil) ?_)
  refine L.Y (Y.pk (c := false) hb3) ?_
  refine AList.nil ?_
  rcases k with _ | k
  ·
   exact absurd h (by simp [spec_DrawPairsApart.j0])
  simp only [spec_DrawPairsApart.j0] at h
  refine W.cond (fun hb => ?_) (fun hb => ?_)
  ·
   have hb7 := hb
   try simp only [hS, hE, ne_eq] at hb
   first | rw [if_pos hb7] at h | rw [if_neg (Bool.eq_false_iff.1 hb7)] at h | rw [if_pos hb] at h | rw [if_neg hb] at h | (simp only [hb, hT, reduceIte] at h) | skip
   refine AWp.seq ?_
   refine W.kp [0, 2, 3, 4, 5, 18] ?_
   refine Dt.reg [false, false, true] [3, 4] (.t 0 (.y 1 (.one 2 (.last 3 (.one 4 .done))))) HM ?_
   refine Dt.T rfl wantN (D.ldN Tryd.underlying26 Y26) ?_
   refine Dt.Y rfl wantN Y.mv ?_
   refine Dt.O (g' := true) rfl wantN ?_
   replace h := Option.bind_eq_some_iff.1 h
   obtain ⟨⟨t581, t582, t585, t586⟩, hc8, h⟩ := h
   dsimp only at h
   refine Ox.C false [2] Tryd.func90 (spec_l1Cur_anyOrder.ac _ _ _ _ _ _ _ _ _ hc8) (H.c .nil) ?_
   refine Dt.L rfl wantN ?_
   refine Op.S (S.stb Y26) ?_
   refine Du.L rfl wantN ?_
   refine Op.S (S.stb Y26) ?_
   refine Du.nil ?_
   simp only [Option.some.injEq, Prod.mk.injEq] at h
   obtain ⟨rfl, rfl, rfl, rfl⟩ := h
   refine AWp.ret ?_
   exact ⟨.inr rfl, _, _, _, Res.n2 (Res1.cl (p := 2) Tryd.underlying26 Y26) (Res1.cl (p := 3) Tryd.underlying26 Y26), ⟨rfl, rfl⟩, PartV.at [] [3, 5] base0 (H.c (H.c .nil))⟩
  ·
   have hb7 := hb
   try simp only [hS, hE, ne_eq] at hb
   first | rw [if_pos hb7] at h | rw [if_neg (Bool.eq_false_iff.1 hb7)] at h | rw [if_pos hb] at h | rw [if_neg hb] at h | (simp only [hb, hT, reduceIte] at h) | skip
   refine AWp.skip ?_
   refine AWp.seq ?_
   refine W.kp [0, 2, 3, 4, 5, 18] ?_
   refine AWp.region ?_
   refine L.Y (Y.fa (off := 0) Tryd.underlying26 Y3) ?_
   refine L.S (S.ld Tryd.underlying3) ?_
   refine L.Y (Y.bd Tryd.underlying26 Y26 P26) ?_
   refine L.M (M.al Y26) ?_
   refine L.S (S.stb Y26) ?_
   refine AList.nil ?_
   refine AWp.seq ?_
   refine AWp.seq ?_
   refine AWp.region ?_
   refine L.Y (Y.fa (off := 1) Tryd.underlying26 Y22) ?_
   refine L.S (S.ld Tryd.underlying22) ?_
   refine L.Y (Y.ln Tryd.underlying22) ?_
   refine L.Y Y.mv ?_
   refine AList.nil ?_
   refine AWp.block ?_
   refine AWp.loopI (fun kk e H => kk ≤ k ∧ ∃ (x27 : Int) (x28 : Int) (x568000 : Int) (x569000 : Int) (x570001 : Int) (x570002 : Int) (x577000 : Int) (x577001 : List Int) (x588000 : Int) (x588001 : List Int), e = [(2, .ptr 0 0), (3, .ptr 1 0), (4, .ptr 2 0), (5, .ptr 3 0), (6, .ptr 4 0), (27, .lit (.int .i64 x27)), (28, .lit (.int .i64 x28))] ∧ H = [.bx 26 [.lit (.int .i64 x568000), .lit (.slice none 0 0)], .bx 26 [.lit (.int .i64 x569000), .lit (.slice none 0 0)], .bx 106 [.row 1 l0.length false (ints .u8 l0), .lit (.int .i64 x570001), .lit (.int .u64 x570002)], .bx 26 [.lit (.int .i64 x577000), .own 5 x577001.length], .bx 26 [.lit (.int .i64 x588000), .own 6 x588001.length], .sl 3 1 x577001.length false (ints .i64 x577001), .sl 3 1 x588001.length false (ints .i64 x588001)] ∧ spec_DrawPairsApart.l0 kk x27 x28 l0 x570001 x570002 x577000 x577001 x588000 x588001 = some (r1, r2, r3, r4)) (k := k)
    ⟨_, _, ⟨Nat.le_refl _, _, _, _, _, _, _, _, _, _, _, rfl, rfl, h⟩, IsPart.at [(3, 1)] [0, 1, 2, 4, 5, 3, 6] base0 (H.c (H.c (H.c (H.c (H.c (H.c (H.c .nil))))))) (E.c (E.c (E.c (E.c (E.c (E.c (E.c .nil)))))))⟩ ?_
   clear h
   rintro k9 e H ⟨hk10, x27, x28, x568000, x569000, x570001, x570002, x577000, x577001, x588000, x588001, rfl, rfl, h⟩
   cases k9 with
   | zero => exact absurd h (by simp [spec_DrawPairsApart.l0])
   | succ k9 =>
   simp only [spec_DrawPairsApart.l0] at h
   refine AWp.seq ?_
   refine AWp.region ?_
   refine L.Y Y.bin ?_
   refine AList.nil ?_
   refine AWp.seq ?_
   refine W.cond (fun hb => ?_) (fun hb => ?_)
   ·
    have hb11 := hb
    try simp only [hS, hE, ne_eq] at hb
    first | rw [if_pos hb11] at h | rw [if_neg (Bool.eq_false_iff.1 hb11)] at h | rw [if_pos hb] at h | rw [if_neg hb] at h | (simp only [hb, hT, reduceIte] at h) | skip
    repeat (first | (rw [iN] at h; obtain ⟨_, h⟩ := h) | (rw [iP] at h; obtain ⟨_, h⟩ := h) | (simp only [bS] at h))
    refine AWp.skip ?_
    refine AWp.seq ?_
    refine AWp.block ?_
    refine Dt.reg [false, false, true] [8, 10] (.y 0 (.t 1 (.y 2 (.y 3 (.t 4 (.y 5 (.one 6 (.one 7 (.last 8 (.y 9 (.one 10 .done))))))))))) HM ?_
    refine Dt.Y rfl wantN (Y.fa (off := 1) Tryd.underlying26 Y22) ?_
    refine Dt.T rfl wantN (D.ld Tryd.underlying22) ?_
    refine Dt.Y rfl wantN Y.mv ?_
    refine Dt.Y rfl wantN (Y.fa (off := 0) Tryd.underlying26 Y3) ?_
    refine Dt.T rfl wantN (D.ld Tryd.underlying3) ?_
    refine Dt.Y rfl wantN Y.bin ?_
    refine Dt.O (g' := true) rfl wantN ?_
    replace h := Option.bind_eq_some_iff.1 h
    obtain ⟨⟨t588, t589, t590⟩, hc12, h⟩ := h
    dsimp only at h
    repeat (first | (rw [iN] at h; obtain ⟨_, h⟩ := h) | (rw [iP] at h; obtain ⟨_, h⟩ := h) | (simp only [bS] at h))
    refine Ox.C false [2] Tryd.func94 (spec_l1Cur_pick.ac _ _ _ _ _ _ _ hc12) (H.c .nil) ?_
    refine Dt.O (g' := false) rfl wantN ?_
    refine Ox.M (M.bs Tryd.underlying22 Y3) ?_
    refine Dt.L rfl wantN ?_
    refine Op.S (S.ap (nn' := false) Tryd.underlying22 Y3) ?_
    refine Du.Y rfl wantN (Y.fa (off := 1) Tryd.underlying26 Y22) ?_
    refine Du.L rfl wantN ?_
    refine Op.S (S.stb Y22) ?_
    refine Du.nil ?_
    refine W.kp [2, 3, 4, 5, 6, 27, 28, 29] ?_
    refine AWp.region ?_
    refine L.Y Y.bin ?_
    refine L.Y Y.mv ?_
    refine AList.nil ?_
    exact ⟨k9, by omega, _, _, ⟨by omega, _, _, _, _, _, _, _, _, _, _, rfl, rfl, h⟩, IsPart.at [] [0, 1, 2, 3, 4, 5, 6] base0 (H.c (H.c (H.c (H.c (H.c (H.c (H.c .nil))))))) (E.c (E.c (E.c (E.c (E.c (E.c (E.c .nil)))))))⟩
   ·
    have hb11 := hb
    try simp only [hS, hE, ne_eq] at hb
    first | rw [if_pos hb11] at h | rw [if_neg (Bool.eq_false_iff.1 hb11)] at h | rw [if_pos hb] at h | rw [if_neg hb] at h | (simp only [hb, hT, reduceIte] at h) | skip
    refine AWp.exit ?_
    refine AWp.seq ?_
    apply AWp.joinX
    ·
     refine Dt.reg [] [2, 3] (.t 0 (.mix 1 (.last 2 (.one 3 .done)) 2 (.ld 1 (.one 3 .done)))) HM ?_
     refine Dt.T rfl wantN (D.ldN Tryd.underlying26 Y26) ?_
     refine Dt.X (g1 := false) rfl rfl wantN wantN ?_ ?_
     ·
      skip
      refine Ox.U (D.ldN Tryd.underlying26 Y26) ?_
      refine Dt.L rfl wantN ?_
      refine Op.S (S.stb Y26) ?_
      refine Du.L rfl wantN ?_
      refine Op.S (S.stb Y26) ?_
      refine Du.nil ?_
      exact ⟨rfl, .inl ⟨rfl, rfl⟩⟩
     ·
      skip
      refine Op.S (S.stb Y26) ?_
      refine Du.D rfl wantN (D.ldN Tryd.underlying26 Y26) ?_
      refine Du.L rfl wantN ?_
      refine Op.S (S.stb Y26) ?_
      refine Du.nil ?_
      exact ⟨rfl, .inr (IsPart.at [] [0, 1, 2, 3, 4, 5, 6] base0 (H.c (H.c (H.c (H.c (H.c (H.c (H.c .nil))))))) (by repeat' first | exact .nil | refine E.c ?_))⟩
    ·
     skip
     simp only [Option.some.injEq, Prod.mk.injEq] at h
     obtain ⟨rfl, rfl, rfl, rfl⟩ := h
     refine AWp.ret ?_
     exact ⟨.inr rfl, _, _, _, Res.n2 (Res1.cl (p := 2) Tryd.underlying26 Y26) (Res1.cl (p := 3) Tryd.underlying26 Y26), ⟨rfl, rfl⟩, PartV.at [] [5, 6] base0 (H.c (H.c .nil))⟩

end Go.Proofs.YtakabmokpknknaaDoor.PFnNearestOrders
