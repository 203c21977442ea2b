-- Written by a program of this session's (wip/myprint2): the functions by the kit's print, the walks by awgen.py. Lean checks it.
import Derived.Test.YtdaneldckdjjoaaDoorPFnExactNearestOfx0
import Derived.Test.YtdaneldckdjjoaaDoorPFnExactNearestOfx1
import Derived.Test.YtdaneldckdjjoaaDoorPFnExactNearestOfx4
import Derived.Test.YtdaneldckdjjoaaDoorPFnExactNearestOfx5
import Derived.Test.YtdaneldckdjjoaaDoorPFnExactNearestOfx10
namespace Go.Proofs.YtdaneldckdjjoaaDoor.PFnExactNearestOf
open Go.RowKit Go.Proofs.YtdaneldckdjjoaaDoorW.PrintWords Go.Proofs.YtdaneldckdjjoaaDoorW.PrintLast Go.Proofs.YtdaneldckdjjoaaDoorW.PrintMore Go.Proofs.YtdaneldckdjjoaaDoorM Go.Proofs.YtdaneldckdjjoaaDoorA Go.Proofs.YtdaneldckdjjoaaDoorT
attribute [local go_sem] max2_int min2_int max_two min_two max_three min_three max_four min_four   -- for this text's walks alone
set_option linter.unusedVariables false
set_option linter.unusedSimpArgs false

/-! ### laws_markOrder: function 9 -/
def laws_markOrder.f (k : Nat) (a0_0 : Int) (l0_1 : List Int) (a1 : Int) : Option (Int × List Int) := (laws_markIntS.f k l0_1 a1).bind fun bt399 => (some (bt399.1, bt399.2))
theorem laws_markOrder.len (k : Nat) (a0_0 : Int) (l0_1 : List Int) (a1 : Int) (r1 : Int) (r2 : List Int) (h : laws_markOrder.f k a0_0 l0_1 a1 = some (r1, r2)) : r2.length = l0_1.length := by
 unfold laws_markOrder.f at h
 obtain ⟨⟨p0_, p1_⟩, h1, h⟩ := Option.bind_eq_some_iff.1 h
 simp only [Option.some.injEq, Prod.mk.injEq] at h
 obtain ⟨rfl, rfl⟩ := h
 exact laws_markIntS.len _ _ _ _ _ h1
set_option maxRecDepth 100000 in
set_option maxHeartbeats 20000000 in
theorem laws_markOrder.ac (k : Nat) (a0_0 : Int) (l0_1 : List Int) (a1 : Int) (r1 : Int) (r2 : List Int) (h : laws_markOrder.f k a0_0 l0_1 a1 = some (r1, r2)) :
  ACalls Tryd.prog 9 [.agg [.lit (.int .i64 a0_0), .own 0 l0_1.length], .lit (.int .i64 a1)] [.sl 3 1 l0_1.length false (ints .i64 l0_1)] (fun v H' => v = .lit (.int .i64 r1) ∧ H' = [.sl 3 1 r2.length false (ints .i64 r2)]) := by
 refine ACalls.ofP [4] Tryd.func9 rfl (by exact Nat.le_of_ble_eq_true rfl) rfl (by decide) ?_
 simp only [Tryd.ntmps9, env0, laws_markOrder.f] at h ⊢
 refine AWp.seq ?_
 refine AWp.region ?_
 refine L.M M.bx ?_
 refine L.Y Y.asg ?_
 refine AList.nil ?_
 refine AWp.seq ?_
 refine AWp.region ?_
 refine L.Y (Y.fa (off := 1) Tryd.underlying26 Y22) ?_
 refine L.S (S.ld Tryd.underlying22) ?_
 refine L.Y Y.mv ?_
 replace h := Option.bind_eq_some_iff.1 h
 obtain ⟨⟨t399, t400⟩, hc1, h⟩ := h
 dsimp only at h
 have hl2 := laws_markIntS.len _ _ _ _ _ hc1
 refine L.C (C.callE (l := true) [0] Tryd.func23 (laws_markIntS.ac _ _ _ _ _ hc1) (H.c .nil) ?_)
 refine L.Y Y.asg ?_
 refine AList.nil ?_
 refine AWp.seq ?_
 refine W.kp [0, 1, 2, 4] ?_
 refine AWp.region ?_
 refine L.Y Y.mv ?_
 refine L.Y Y.asg ?_
 refine AList.nil ?_
 simp only [Option.some.injEq, Prod.mk.injEq] at h
 obtain ⟨rfl, rfl⟩ := h
 refine AWp.ret ?_
 exact ⟨.inr rfl, [(4, _)], _, ⟨rfl, rfl⟩, IsPart.at [] [0] base1 (H.c .nil) (E.c .nil)⟩

/-! ### laws_heldIntS: function 24 -/
def laws_heldIntS.l0 : Nat → List Int → Int → Int → Option (Int)
 | 0, _, _, _ => none
 | k + 1, x0, x1, x5 => if x5 < (x0.length : Int) then (if 0 ≤ x5 then (if (rd x0 x5) = x1 then (laws_heldIntS.l0 k x0 (wrap64 (x1 + 1)) (wrap64 (x5 + 1))) else (some (-1))) else (none)) else (some x1)
def laws_heldIntS.f (k : Nat) (l0 : List Int) (a1 : Int) : Option (Int) := laws_heldIntS.l0 k l0 a1 0
set_option maxRecDepth 100000 in
set_option maxHeartbeats 20000000 in
theorem laws_heldIntS.ac (k : Nat) (l0 : List Int) (a1 : Int) (r : Int) (h : laws_heldIntS.f k l0 a1 = some r) :
  ACalls Tryd.prog 24 [.row 1 l0.length false (ints .i64 l0), .lit (.int .i64 a1)] [] (fun v H' => v = .lit (.int .i64 r) ∧ H' = []) := by
 refine ACalls.ofP [4] Tryd.func24 rfl (by exact Nat.le_of_ble_eq_true rfl) rfl (by decide) ?_
 simp only [Tryd.ntmps24, env0, laws_heldIntS.f] at h ⊢
 refine AWp.seq ?_
 refine AWp.region ?_
 refine L.Y Y.asg ?_
 refine AList.nil ?_
 refine AWp.seq ?_
 refine AWp.seq ?_
 refine AWp.region ?_
 refine L.Y Y.asg ?_
 refine AList.nil ?_
 refine AWp.block ?_
 refine AWp.loopI (fun kk e H => kk ≤ k ∧ ∃ (x1 : Int) (x5 : Int), e = [(0, .row 1 l0.length false (ints .i64 l0)), (1, .lit (.int .i64 x1)), (5, .lit (.int .i64 x5))] ∧ H = [] ∧ laws_heldIntS.l0 kk l0 x1 x5 = some r) (k := k)
  ⟨_, _, ⟨Nat.le_refl _, _, _, rfl, rfl, h⟩, IsPart.at [] [] base0 .nil (E.c (E.c (E.c .nil)))⟩ ?_
 clear h
 rintro k1 e H ⟨hk2, x1, x5, rfl, rfl, h⟩
 cases k1 with
 | zero => exact absurd h (by simp [laws_heldIntS.l0])
 | succ k1 =>
 simp only [laws_heldIntS.l0] at h
 refine AWp.seq ?_
 refine AWp.seq ?_
 refine AWp.region ?_
 refine L.Y Y.mv ?_
 refine L.Y Y.mv ?_
 refine L.Y (Y.ln Tryd.underlying22) ?_
 refine L.Y Y.bin ?_
 refine AList.nil ?_
 refine W.cond (fun hb => ?_) (fun hb => ?_)
 ·
  have hb3 := hb
  try simp only [hS, hE, ne_eq] at hb
  first | rw [if_pos hb3] at h | rw [if_neg (Bool.eq_false_iff.1 hb3)] at h | rw [if_pos hb] at h | rw [if_neg hb] at h | (simp only [hb, hT, reduceIte] at h) | skip
  repeat (first | (rw [iN] at h; obtain ⟨_, h⟩ := h) | (rw [iP] at h; obtain ⟨_, h⟩ := h) | (simp only [bS] at h))
  refine AWp.skip ?_
  refine AWp.seq ?_
  refine AWp.block ?_
  refine AWp.seq ?_
  refine AWp.seq ?_
  refine AWp.region ?_
  refine L.Y Y.mv ?_
  refine L.Y Y.mv ?_
  refine L.Y (Y.ixr Tryd.underlying22 Y3) ?_
  refine L.S (S.ld Tryd.underlying3) ?_
  refine L.Y Y.mv ?_
  refine L.Y Y.bin ?_
  refine AList.nil ?_
  refine W.cond (fun hb => ?_) (fun hb => ?_)
  ·
   have hb4 := hb
   try simp only [hS, hE, ne_eq] at hb
   first | rw [if_pos hb4] at h | rw [if_neg (Bool.eq_false_iff.1 hb4)] at h | rw [if_pos hb] at h | rw [if_neg hb] at h | (simp only [hb, hT, reduceIte] at h) | skip
   refine AWp.seq ?_
   refine W.kp [0, 1, 5, 9, 17] ?_
   refine AWp.region ?_
   refine L.Y Y.asg ?_
   refine AList.nil ?_
   obtain rfl := Option.some.inj h
   refine AWp.ret ?_
   exact ⟨.inr rfl, [(4, _)], _, ⟨rfl, rfl⟩, IsPart.at [] [] base0 .nil (E.c .nil)⟩
  ·
   have hb4 := hb
   try simp only [hS, hE, ne_eq] at hb
   first | rw [if_pos hb4] at h | rw [if_neg (Bool.eq_false_iff.1 hb4)] at h | rw [if_pos hb] at h | rw [if_neg hb] at h | (simp only [hb, hT, reduceIte] at h) | skip
   refine AWp.skip ?_
   refine W.kp [0, 1, 5, 9, 17] ?_
   refine AWp.region ?_
   refine L.Y Y.mv ?_
   refine L.Y Y.bin ?_
   refine L.Y Y.asg ?_
   refine AList.nil ?_
   refine AWp.region ?_
   refine L.Y Y.mv ?_
   refine L.Y Y.bin ?_
   refine L.Y Y.asg ?_
   refine AList.nil ?_
   exact ⟨k1, by omega, _, _, ⟨by omega, _, _, rfl, rfl, h⟩, IsPart.at [] [] base0 .nil (E.c (E.c (E.c .nil)))⟩
 ·
  have hb3 := hb
  try simp only [hS, hE, ne_eq] at hb
  first | rw [if_pos hb3] at h | rw [if_neg (Bool.eq_false_iff.1 hb3)] at h | rw [if_pos hb] at h | rw [if_neg hb] at h | (simp only [hb, hT, reduceIte] at h) | skip
  refine AWp.exit ?_
  refine AWp.seq ?_
  refine AWp.region ?_
  refine L.Y Y.mv ?_
  refine L.Y Y.asg ?_
  refine AList.nil ?_
  obtain rfl := Option.some.inj h
  refine AWp.ret ?_
  exact ⟨.inr rfl, [(4, _)], _, ⟨rfl, rfl⟩, IsPart.at [] [] base0 .nil (E.c .nil)⟩

/-! ### laws_heldOrder: function 10 -/
def laws_heldOrder.f (k : Nat) (a0_0 : Int) (l0_1 : List Int) (a1 : Int) : Option (Int) := (laws_heldIntS.f k l0_1 a1).bind fun t403 => (if t403 < 0 then (some (-1)) else (some t403))
set_option maxRecDepth 100000 in
set_option maxHeartbeats 20000000 in
theorem laws_heldOrder.ac (k : Nat) (a0_0 : Int) (l0_1 : List Int) (a1 : Int) (r : Int) (h : laws_heldOrder.f k a0_0 l0_1 a1 = some r) :
  ACalls Tryd.prog 10 [.agg [.lit (.int .i64 a0_0), .row 1 l0_1.length false (ints .i64 l0_1)], .lit (.int .i64 a1)] [] (fun v H' => v = .lit (.int .i64 r) ∧ H' = []) := by
 refine ACalls.ofP [4] Tryd.func10 rfl (by exact Nat.le_of_ble_eq_true rfl) rfl (by decide) ?_
 simp only [Tryd.ntmps10, env0, laws_heldOrder.f] at h ⊢
 refine AWp.seq ?_
 refine AWp.region ?_
 refine L.M M.bx ?_
 refine L.Y Y.asg ?_
 refine AList.nil ?_
 refine AWp.seq ?_
 refine AWp.region ?_
 refine L.Y (Y.fa (off := 1) Tryd.underlying26 Y22) ?_
 refine L.S (S.ld Tryd.underlying22) ?_
 refine L.Y Y.mv ?_
 replace h := Option.bind_eq_some_iff.1 h
 obtain ⟨t403, hc1, h⟩ := h
 refine L.C (C.callE (l := true) [] Tryd.func24 (laws_heldIntS.ac _ _ _ _ hc1) .nil ?_)
 refine L.Y Y.asg ?_
 refine AList.nil ?_
 refine AWp.seq ?_
 refine AWp.seq ?_
 refine W.kp [0, 1, 2, 4] ?_
 refine AWp.region ?_
 refine L.Y Y.mv ?_
 refine L.Y Y.bin ?_
 refine AList.nil ?_
 refine W.cond (fun hb => ?_) (fun hb => ?_)
 ·
  have hb2 := hb
  try simp only [hS, hE, ne_eq] at hb
  first | rw [if_pos hb2] at h | rw [if_neg (Bool.eq_false_iff.1 hb2)] at h | rw [if_pos hb] at h | rw [if_neg hb] at h | (simp only [hb, hT, reduceIte] at h) | skip
  refine AWp.seq ?_
  refine AWp.region ?_
  refine L.Y Y.asg ?_
  refine AList.nil ?_
  obtain rfl := Option.some.inj h
  refine AWp.ret ?_
  exact ⟨.inr rfl, [(4, _)], _, ⟨rfl, rfl⟩, IsPart.at [] [] base0 .nil (E.c .nil)⟩
 ·
  have hb2 := hb
  try simp only [hS, hE, ne_eq] at hb
  first | rw [if_pos hb2] at h | rw [if_neg (Bool.eq_false_iff.1 hb2)] at h | rw [if_pos hb] at h | rw [if_neg hb] at h | (simp only [hb, hT, reduceIte] at h) | skip
  refine AWp.skip ?_
  refine AWp.seq ?_
  refine AWp.region ?_
  refine L.Y Y.mv ?_
  refine L.Y Y.asg ?_
  refine AList.nil ?_
  obtain rfl := Option.some.inj h
  refine AWp.ret ?_
  exact ⟨.inr rfl, [(4, _)], _, ⟨rfl, rfl⟩, IsPart.at [] [] base0 .nil (E.c .nil)⟩

/-! ### laws_FnExactNearestOf: function 3 -/
mutual
def laws_FnExactNearestOf.j0 : Nat → Int → Int → Bool → Int → Bool → Bool → Int → List Int → Int → List Int → Int → List Int → Int → List Int → Option (Bool)
 | 0, _, _, _, _, _, _, _, _, _, _, _, _, _, _ => none
 | k + 1, x1, x7, x8, x11, x12, x54, x405000, x405001, x417000, x417001, x422000, x422001, x429000, x429001 => if x54 = true then (some false) else ((laws_toOrder.f k x405000 x405001).bind fun bt430 => ((laws_eqOrder.f k x422000 x422001 bt430.1 bt430.2).bind fun t434 => (if t434 = true then ((laws_markOrder.f k x422000 x422001 1).bind fun bt435 => (if bt435.1 < 0 then (laws_FnExactNearestOf.j1 k x1 x7 x8 true x405000 x405001 x417000 x417001 x429000 x429001) else ((laws_eqOrder.f k x429000 x429001 x417000 x417001).bind fun t437 => (if t437 = true then (if x11 = x7 then (laws_FnExactNearestOf.j1 k x1 x7 x8 (x12 != x8) x405000 x405001 x417000 x417001 x429000 x429001) else (laws_FnExactNearestOf.j1 k x1 x7 x8 true x405000 x405001 x417000 x417001 x429000 x429001)) else (laws_FnExactNearestOf.j1 k x1 x7 x8 true x405000 x405001 x417000 x417001 x429000 x429001))))) else (some false))))
def laws_FnExactNearestOf.j1 : Nat → Int → Int → Bool → Bool → Int → List Int → Int → List Int → Int → List Int → Option (Bool)
 | 0, _, _, _, _, _, _, _, _, _, _ => none
 | k + 1, x1, x7, x8, x80, x405000, x405001, x417000, x417001, x429000, x429001 => if x80 = true then (some false) else ((laws_markOrder.f k x429000 x429001 1).bind fun bt438 => ((laws_heldOrder.f k x429000 bt438.2 1).bind fun t440 => (if t440 < 0 then (some false) else (if t440 = bt438.1 then ((laws_toOrder.f k x405000 x405001).bind fun bt441 => ((impl_NearestOf.f k bt441.1 bt441.2 x1).bind fun bt445 => ((laws_eqOrder.f k bt445.1 bt445.2.1 x417000 x417001).bind fun t452 => (if t452 = true then (if bt445.2.2.1 = x7 then (laws_FnExactNearestOf.j2 k bt438.1 (bt445.2.2.2 != x8) x429000 bt438.2) else (laws_FnExactNearestOf.j2 k bt438.1 true x429000 bt438.2)) else (laws_FnExactNearestOf.j2 k bt438.1 true x429000 bt438.2))))) else (some false)))))
def laws_FnExactNearestOf.j2 : Nat → Int → Bool → Int → List Int → Option (Bool)
 | 0, _, _, _, _ => none
 | k + 1, x14, x113, x429000, x429001 => if x113 = true then (some false) else ((laws_heldOrder.f k x429000 x429001 1).bind fun t453 => (if t453 < 0 then (some false) else (if t453 = x14 then (some true) else (some false))))
end
def laws_FnExactNearestOf.f (k : Nat) (a0_0 : Int) (l0_1 : List Int) (a1 : Int) : Option (Bool) := (laws_szOrder.f a0_0 l0_1 1048576).bind fun t405 => (if t405 < 0 then (some true) else ((laws_toOrder.f k a0_0 l0_1).bind fun bt406 => ((spec_NearestOf.f k bt406.1 bt406.2 a1).bind fun bt410 => ((laws_toOrder.f k a0_0 l0_1).bind fun bt417 => ((impl_NearestOf.f k bt417.1 bt417.2 a1).bind fun bt422 => ((laws_eqOrder.f k bt422.1 bt422.2.1 bt410.1 bt410.2.1).bind fun t429 => (if t429 = true then (if bt422.2.2.1 = bt410.2.2.1 then (laws_FnExactNearestOf.j0 k a1 bt410.2.2.1 bt410.2.2.2 bt422.2.2.1 bt422.2.2.2 (bt422.2.2.2 != bt410.2.2.2) a0_0 l0_1 bt410.1 bt410.2.1 bt417.1 bt417.2 bt422.1 bt422.2.1) else (laws_FnExactNearestOf.j0 k a1 bt410.2.2.1 bt410.2.2.2 bt422.2.2.1 bt422.2.2.2 true a0_0 l0_1 bt410.1 bt410.2.1 bt417.1 bt417.2 bt422.1 bt422.2.1)) else (laws_FnExactNearestOf.j0 k a1 bt410.2.2.1 bt410.2.2.2 bt422.2.2.1 bt422.2.2.2 true a0_0 l0_1 bt410.1 bt410.2.1 bt417.1 bt417.2 bt422.1 bt422.2.1))))))))
set_option maxRecDepth 100000 in
set_option maxHeartbeats 20000000 in
theorem laws_FnExactNearestOf.ac (k : Nat) (a0_0 : Int) (l0_1 : List Int) (a1 : Int)  (h : laws_FnExactNearestOf.f k a0_0 l0_1 a1 = some true) :
  ACalls Tryd.prog 3 [.agg [.lit (.int .i64 a0_0), .row 1 l0_1.length false (ints .i64 l0_1)], .lit (.int .i64 a1)] [] (fun v H' => v = .lit (.bool true) ∧ H' = []) := by
 refine ACalls.ofP [4] Tryd.func3 rfl (by exact Nat.le_of_ble_eq_true rfl) rfl (by decide) ?_
 simp only [Tryd.ntmps3, env0, laws_FnExactNearestOf.f] at h ⊢
 refine AWp.seq ?_
 refine AWp.region ?_
 refine L.M M.bx ?_
 refine L.Y Y.asg ?_
 refine AList.nil ?_
 refine AWp.seq ?_
 refine AWp.region ?_
 refine L.Y Y.asg ?_
 refine AList.nil ?_
 refine AWp.seq ?_
 refine AWp.region ?_
 refine L.S (S.ldN Tryd.underlying24 Y24) ?_
 refine L.Y Y.mv ?_
 replace h := Option.bind_eq_some_iff.1 h
 obtain ⟨t405, hc1, h⟩ := h
 refine L.C (C.callE (l := true) [] Tryd.func4 (laws_szOrder.ac _ _ _ _ hc1) .nil ?_)
 refine L.Y Y.asg ?_
 refine AList.nil ?_
 refine AWp.seq ?_
 refine AWp.seq ?_
 refine AWp.region ?_
 refine L.Y Y.mv ?_
 refine L.Y Y.bin ?_
 refine AList.nil ?_
 refine W.cond (fun hb => ?_) (fun hb => ?_)
 ·
  have hb2 := hb
  try simp only [hS, hE, ne_eq] at hb
  first | rw [if_pos hb2] at h | rw [if_neg (Bool.eq_false_iff.1 hb2)] at h | rw [if_pos hb] at h | rw [if_neg hb] at h | (simp only [hb, hT, reduceIte] at h) | skip
  refine AWp.seq ?_
  refine W.kp [0, 1, 2, 4, 5, 23] ?_
  refine AWp.region ?_
  refine L.Y Y.asg ?_
  refine AList.nil ?_
  refine AWp.ret ?_
  first | (exfalso; cases h; done) | exact ⟨.inr rfl, [(4, _)], _, ⟨rfl, rfl⟩, IsPart.at [] [] base0 .nil (E.c .nil (hs := Sub.litE (LV h)))⟩
 ·
  have hb2 := hb
  try simp only [hS, hE, ne_eq] at hb
  first | rw [if_pos hb2] at h | rw [if_neg (Bool.eq_false_iff.1 hb2)] at h | rw [if_pos hb] at h | rw [if_neg hb] at h | (simp only [hb, hT, reduceIte] at h) | skip
  refine AWp.skip ?_
  refine AWp.seq ?_
  refine W.kp [0, 1, 2, 4, 5, 23] ?_
  refine AWp.region ?_
  refine L.S (S.ldN Tryd.underlying24 Y24) ?_
  replace h := Option.bind_eq_some_iff.1 h
  obtain ⟨⟨t406, t407⟩, hc3, h⟩ := h
  dsimp only at h
  refine L.C (C.callE (l := true) [] Tryd.func6 (laws_toOrder.ac _ _ _ _ _ hc3) .nil ?_)
  refine L.Y Y.mv ?_
  replace h := Option.bind_eq_some_iff.1 h
  obtain ⟨⟨t410, t411, t414, t415⟩, hc4, h⟩ := h
  dsimp only at h
  refine L.C ?_
  refine C.frz 1 ?_
  refine C.callE (l := false) [] Tryd.func5 (spec_NearestOf.ac _ _ _ _ _ _ _ _ hc4) .nil ?_
  refine L.Y Y.mv ?_
  refine L.Y Y.ex ?_
  refine L.Y Y.ex ?_
  refine L.Y Y.ex ?_
  refine L.M (M.al Y26) ?_
  refine L.S (S.stb Y26) ?_
  refine L.Y Y.asg ?_
  refine L.Y Y.asg ?_
  refine AList.nil ?_
  refine AWp.seq ?_
  refine W.kp [0, 1, 2, 4, 5, 6, 7, 8, 23] ?_
  refine AWp.region ?_
  refine L.S (S.ldN Tryd.underlying24 Y24) ?_
  replace h := Option.bind_eq_some_iff.1 h
  obtain ⟨⟨t417, t418⟩, hc5, h⟩ := h
  dsimp only at h
  refine L.C (C.callE (l := true) [] Tryd.func6 (laws_toOrder.ac _ _ _ _ _ hc5) .nil ?_)
  refine L.M (M.al Y26) ?_
  refine L.S (S.stb Y26) ?_
  refine AList.nil ?_
  refine AWp.seq ?_
  refine AWp.region ?_
  refine L.S (S.ldN Tryd.underlying26 Y26) ?_
  refine L.Y Y.mv ?_
  replace h := Option.bind_eq_some_iff.1 h
  obtain ⟨⟨t422, t423, t426, t427⟩, hc6, h⟩ := h
  dsimp only at h
  refine L.C (C.callE (l := true) [] Tryd.func7 (impl_NearestOf.ac _ _ _ _ _ _ _ _ hc6) .nil ?_)
  refine L.Y Y.mv ?_
  refine L.Y Y.ex ?_
  refine L.Y Y.ex ?_
  refine L.Y Y.ex ?_
  refine L.M (M.al Y26) ?_
  refine L.S (S.stb Y26) ?_
  refine L.Y Y.asg ?_
  refine L.Y Y.asg ?_
  refine AList.nil ?_
  refine AWp.seq ?_
  refine AWp.seq ?_
  refine W.kp [0, 1, 2, 4, 5, 6, 7, 8, 9, 10, 11, 12, 23] ?_
  refine AWp.region ?_
  refine L.S (S.ldN Tryd.underlying26 Y26) ?_
  refine L.S (S.ldN Tryd.underlying26 Y26) ?_
  replace h := Option.bind_eq_some_iff.1 h
  obtain ⟨t429, hc7, h⟩ := h
  refine L.C (C.callE (l := true) [] Tryd.func8 (laws_eqOrder.ac _ _ _ _ _ _ hc7) .nil ?_)
  refine L.Y Y.nt ?_
  refine L.Y Y.mv ?_
  refine L.Gc (fun hb => ?_) (fun hb => ?_)
  ·
   have hb8 := hb
   try simp only [hS, hE, ne_eq] at hb
   first | rw [if_pos hb8] at h | rw [if_neg (Bool.eq_false_iff.1 hb8)] at h | rw [if_pos hb] at h | rw [if_neg hb] at h | (simp only [hb, hT, reduceIte] at h) | skip
   exfalso
   revert h
   exact fun h => by cases k <;> simp [laws_FnExactNearestOf.j0] at h
  ·
   have hb8 := hb
   try simp only [hS, hE, ne_eq] at hb
   first | rw [if_pos hb8] at h | rw [if_neg (Bool.eq_false_iff.1 hb8)] at h | rw [if_pos hb] at h | rw [if_neg hb] at h | (simp only [hb, hT, reduceIte] at h) | skip
   refine L.Gy hb8 Y.mv ?_
   refine L.Gy hb8 Y.mv ?_
   refine L.Gy hb8 Y.bin ?_
   refine L.Y (Y.pk (c := false) hb8) ?_
   refine L.Y Y.mv ?_
   refine L.Gc (fun hb => ?_) (fun hb => ?_)
   ·
    have hb9 := hb
    try simp only [hS, hE, ne_eq] at hb
    first | rw [if_pos hb9] at h | rw [if_neg (Bool.eq_false_iff.1 hb9)] at h | rw [if_pos hb] at h | rw [if_neg hb] at h | (simp only [hb, hT, reduceIte] at h) | skip
    exfalso
    revert h
    exact fun h => by cases k <;> simp [laws_FnExactNearestOf.j0] at h
   ·
    have hb9 := hb
    try simp only [hS, hE, ne_eq] at hb
    first | rw [if_pos hb9] at h | rw [if_neg (Bool.eq_false_iff.1 hb9)] at h | rw [if_pos hb] at h | rw [if_neg hb] at h | (simp only [hb, hT, reduceIte] at h) | skip
    refine L.Gy hb9 Y.mv ?_
    refine L.Gy hb9 Y.mv ?_
    refine L.Gy hb9 (Y.bb Tryd.underlying4) ?_
    refine L.Y (Y.pk (c := false) hb9) ?_
    refine AList.nil ?_
    rcases k with _ | k
    ·
     exact absurd h (by simp [laws_FnExactNearestOf.j0])
    simp only [laws_FnExactNearestOf.j0] at h
    refine W.cond (fun hb => ?_) (fun hb => ?_)
    ·
     have hb10 := hb
     try simp only [hS, hE, ne_eq] at hb
     first | rw [if_pos hb10] at h | rw [if_neg (Bool.eq_false_iff.1 hb10)] at h | rw [if_pos hb] at h | rw [if_neg hb] at h | (simp only [hb, hT, reduceIte] at h) | skip
     exfalso
     revert h
     exact fun h => by simp at h
    ·
     have hb10 := hb
     try simp only [hS, hE, ne_eq] at hb
     first | rw [if_pos hb10] at h | rw [if_neg (Bool.eq_false_iff.1 hb10)] at h | rw [if_pos hb] at h | rw [if_neg hb] at h | (simp only [hb, hT, reduceIte] at h) | skip
     refine AWp.skip ?_
     refine AWp.seq ?_
     refine AWp.seq ?_
     refine W.kp [0, 1, 2, 4, 5, 6, 7, 8, 9, 10, 11, 12, 23, 54] ?_
     refine Dt.reg [] [] (.t 0 (.t 1 (.one 2 (.one 3 (.y 4 .done))))) HM ?_
     refine Dt.T rfl wantN (D.ldN Tryd.underlying26 Y26) ?_
     refine Dt.T rfl wantN (D.ldN Tryd.underlying24 Y24) ?_
     refine Dt.O (g' := false) rfl wantN ?_
     replace h := Option.bind_eq_some_iff.1 h
     obtain ⟨⟨t430, t431⟩, hc11, h⟩ := h
     dsimp only at h
     refine Ox.C true [] Tryd.func6 (laws_toOrder.ac _ _ _ _ _ hc11) .nil ?_
     refine Dt.O (g' := false) rfl wantN ?_
     replace h := Option.bind_eq_some_iff.1 h
     obtain ⟨t434, hc12, h⟩ := h
     refine Ox.C true [] Tryd.func8 (laws_eqOrder.ac _ _ _ _ _ _ hc12) .nil ?_
     refine Dt.Y rfl wantN Y.nt ?_
     refine Dt.nil ?_
     refine W.cond (fun hb => ?_) (fun hb => ?_)
     ·
      have hb13 := hb
      try simp only [hS, hE, ne_eq] at hb
      first | rw [if_pos hb13] at h | rw [if_neg (Bool.eq_false_iff.1 hb13)] at h | rw [if_pos hb] at h | rw [if_neg hb] at h | (simp only [hb, hT, reduceIte] at h) | skip
      exfalso
      revert h
      exact fun h => by simp at h
     ·
      have hb13 := hb
      try simp only [hS, hE, ne_eq] at hb
      first | rw [if_pos hb13] at h | rw [if_neg (Bool.eq_false_iff.1 hb13)] at h | rw [if_pos hb] at h | rw [if_neg hb] at h | (simp only [hb, hT, reduceIte] at h) | skip
      refine AWp.skip ?_
      refine AWp.seq ?_
      refine W.kp [0, 1, 2, 4, 5, 6, 7, 8, 9, 10, 11, 12, 23, 54, 59] ?_
      refine AWp.region ?_
      refine L.Y Y.asg ?_
      refine AList.nil ?_
      refine AWp.seq ?_
      refine AWp.region ?_
      refine L.S (S.ldN Tryd.underlying26 Y26) ?_
      refine L.Y Y.mv ?_
      replace h := Option.bind_eq_some_iff.1 h
      obtain ⟨⟨t435, t436⟩, hc14, h⟩ := h
      dsimp only at h
      have hl15 := laws_markOrder.len _ _ _ _ _ _ hc14
      refine L.C (C.callE (l := true) [3] Tryd.func9 (laws_markOrder.ac _ _ _ _ _ _ hc14) (H.c .nil) ?_)
      refine L.Y Y.asg ?_
      refine AList.nil ?_
      refine AWp.seq ?_
      refine AWp.seq ?_
      refine AWp.region ?_
      refine L.Y Y.mv ?_
      refine L.Y Y.bin ?_
      refine L.Y Y.mv ?_
      refine L.Gc (fun hb => ?_) (fun hb => ?_)
      ·
       have hb16 := hb
       try simp only [hS, hE, ne_eq] at hb
       first | rw [if_pos hb16] at h | rw [if_neg (Bool.eq_false_iff.1 hb16)] at h | rw [if_pos hb] at h | rw [if_neg hb] at h | (simp only [hb, hT, reduceIte] at h) | skip
       exfalso
       revert h
       exact fun h => by cases k <;> simp [laws_FnExactNearestOf.j1] at h
      ·
       have hb16 := hb
       try simp only [hS, hE, ne_eq] at hb
       first | rw [if_pos hb16] at h | rw [if_neg (Bool.eq_false_iff.1 hb16)] at h | rw [if_pos hb] at h | rw [if_neg hb] at h | (simp only [hb, hT, reduceIte] at h) | skip
       refine L.Gs hb16 (S.ldN Tryd.underlying26 Y26) ?_
       refine L.Gs hb16 (S.ldN Tryd.underlying26 Y26) ?_
       replace h := Option.bind_eq_some_iff.1 h
       obtain ⟨t437, hc17, h⟩ := h
       refine L.GC hb16 (C.callE (l := true) [] Tryd.func8 (laws_eqOrder.ac _ _ _ _ _ _ hc17) .nil ?_)
       refine L.Gy hb16 Y.nt ?_
       refine L.Y (Y.pk (c := false) hb16) ?_
       refine L.Y Y.mv ?_
       refine L.Gc (fun hb => ?_) (fun hb => ?_)
       ·
        have hb18 := hb
        try simp only [hS, hE, ne_eq] at hb
        first | rw [if_pos hb18] at h | rw [if_neg (Bool.eq_false_iff.1 hb18)] at h | rw [if_pos hb] at h | rw [if_neg hb] at h | (simp only [hb, hT, reduceIte] at h) | skip
        exfalso
        revert h
        exact fun h => by cases k <;> simp [laws_FnExactNearestOf.j1] at h
       ·
        have hb18 := hb
        try simp only [hS, hE, ne_eq] at hb
        first | rw [if_pos hb18] at h | rw [if_neg (Bool.eq_false_iff.1 hb18)] at h | rw [if_pos hb] at h | rw [if_neg hb] at h | (simp only [hb, hT, reduceIte] at h) | skip
        refine L.Gy hb18 Y.mv ?_
        refine L.Gy hb18 Y.mv ?_
        refine L.Gy hb18 Y.bin ?_
        refine L.Y (Y.pk (c := false) hb18) ?_
        refine L.Y Y.mv ?_
        refine L.Gc (fun hb => ?_) (fun hb => ?_)
        ·
         have hb19 := hb
         try simp only [hS, hE, ne_eq] at hb
         first | rw [if_pos hb19] at h | rw [if_neg (Bool.eq_false_iff.1 hb19)] at h | rw [if_pos hb] at h | rw [if_neg hb] at h | (simp only [hb, hT, reduceIte] at h) | skip
         exfalso
         revert h
         exact fun h => by cases k <;> simp [laws_FnExactNearestOf.j1] at h
        ·
         have hb19 := hb
         try simp only [hS, hE, ne_eq] at hb
         first | rw [if_pos hb19] at h | rw [if_neg (Bool.eq_false_iff.1 hb19)] at h | rw [if_pos hb] at h | rw [if_neg hb] at h | (simp only [hb, hT, reduceIte] at h) | skip
         refine L.Gy hb19 Y.mv ?_
         refine L.Gy hb19 Y.mv ?_
         refine L.Gy hb19 (Y.bb Tryd.underlying4) ?_
         refine L.Y (Y.pk (c := false) hb19) ?_
         refine AList.nil ?_
         rcases k with _ | k
         ·
          exact absurd h (by simp [laws_FnExactNearestOf.j1])
         simp only [laws_FnExactNearestOf.j1] at h
         refine W.cond (fun hb => ?_) (fun hb => ?_)
         ·
          have hb20 := hb
          try simp only [hS, hE, ne_eq] at hb
          first | rw [if_pos hb20] at h | rw [if_neg (Bool.eq_false_iff.1 hb20)] at h | rw [if_pos hb] at h | rw [if_neg hb] at h | (simp only [hb, hT, reduceIte] at h) | skip
          exfalso
          revert h
          exact fun h => by simp at h
         ·
          have hb20 := hb
          try simp only [hS, hE, ne_eq] at hb
          first | rw [if_pos hb20] at h | rw [if_neg (Bool.eq_false_iff.1 hb20)] at h | rw [if_pos hb] at h | rw [if_neg hb] at h | (simp only [hb, hT, reduceIte] at h) | skip
          refine AWp.skip ?_
          refine AWp.seq ?_
          refine W.kp [0, 1, 2, 4, 5, 6, 7, 8, 9, 10, 11, 12, 13, 23, 54, 59, 80] ?_
          refine AWp.region ?_
          refine L.Y Y.asg ?_
          refine AList.nil ?_
          refine AWp.seq ?_
          refine AWp.region ?_
          refine L.S (S.ldN Tryd.underlying26 Y26) ?_
          refine L.Y Y.mv ?_
          replace h := Option.bind_eq_some_iff.1 h
          obtain ⟨⟨t438, t439⟩, hc21, h⟩ := h
          dsimp only at h
          have hl22 := laws_markOrder.len _ _ _ _ _ _ hc21
          refine L.C (C.callE (l := true) [5] Tryd.func9 (laws_markOrder.ac _ _ _ _ _ _ hc21) (H.c .nil) ?_)
          refine L.Y Y.asg ?_
          refine AList.nil ?_
          refine AWp.seq ?_
          refine AWp.region ?_
          refine L.Y Y.asg ?_
          refine AList.nil ?_
          refine AWp.seq ?_
          refine AWp.region ?_
          refine L.S (S.ldN Tryd.underlying26 Y26) ?_
          refine L.Y Y.mv ?_
          replace h := Option.bind_eq_some_iff.1 h
          obtain ⟨t440, hc23, h⟩ := h
          refine L.C (C.callE (l := true) [] Tryd.func10 (laws_heldOrder.ac _ _ _ _ _ hc23) .nil ?_)
          refine L.Y Y.asg ?_
          refine AList.nil ?_
          refine AWp.seq ?_
          refine AWp.seq ?_
          refine W.kp [0, 1, 2, 4, 5, 6, 7, 8, 9, 10, 11, 12, 13, 14, 15, 23, 54, 59, 80] ?_
          refine AWp.region ?_
          refine L.Y Y.mv ?_
          refine L.Y Y.bin ?_
          refine AList.nil ?_
          refine W.cond (fun hb => ?_) (fun hb => ?_)
          ·
           have hb24 := hb
           try simp only [hS, hE, ne_eq] at hb
           first | rw [if_pos hb24] at h | rw [if_neg (Bool.eq_false_iff.1 hb24)] at h | rw [if_pos hb] at h | rw [if_neg hb] at h | (simp only [hb, hT, reduceIte] at h) | skip
           exfalso
           revert h
           exact fun h => by simp at h
          ·
           have hb24 := hb
           try simp only [hS, hE, ne_eq] at hb
           first | rw [if_pos hb24] at h | rw [if_neg (Bool.eq_false_iff.1 hb24)] at h | rw [if_pos hb] at h | rw [if_neg hb] at h | (simp only [hb, hT, reduceIte] at h) | skip
           refine AWp.skip ?_
           refine AWp.seq ?_
           refine AWp.seq ?_
           refine AWp.region ?_
           refine L.Y Y.mv ?_
           refine L.Y Y.mv ?_
           refine L.Y Y.bin ?_
           refine AList.nil ?_
           refine W.cond (fun hb => ?_) (fun hb => ?_)
           ·
            have hb25 := hb
            try simp only [hS, hE, ne_eq] at hb
            first | rw [if_pos hb25] at h | rw [if_neg (Bool.eq_false_iff.1 hb25)] at h | rw [if_pos hb] at h | rw [if_neg hb] at h | (simp only [hb, hT, reduceIte] at h) | skip
            exfalso
            revert h
            exact fun h => by simp at h
           ·
            have hb25 := hb
            try simp only [hS, hE, ne_eq] at hb
            first | rw [if_pos hb25] at h | rw [if_neg (Bool.eq_false_iff.1 hb25)] at h | rw [if_pos hb] at h | rw [if_neg hb] at h | (simp only [hb, hT, reduceIte] at h) | skip
            refine AWp.skip ?_
            refine AWp.seq ?_
            refine AWp.region ?_
            refine L.S (S.ldN Tryd.underlying24 Y24) ?_
            replace h := Option.bind_eq_some_iff.1 h
            obtain ⟨⟨t441, t442⟩, hc26, h⟩ := h
            dsimp only at h
            refine L.C (C.callE (l := true) [] Tryd.func6 (laws_toOrder.ac _ _ _ _ _ hc26) .nil ?_)
            refine L.Y Y.mv ?_
            replace h := Option.bind_eq_some_iff.1 h
            obtain ⟨⟨t445, t446, t449, t450⟩, hc27, h⟩ := h
            dsimp only at h
            refine L.C (C.callE (l := true) [] Tryd.func7 (impl_NearestOf.ac _ _ _ _ _ _ _ _ hc27) .nil ?_)
            refine L.Y Y.mv ?_
            refine L.Y Y.ex ?_
            refine L.Y Y.ex ?_
            refine L.Y Y.ex ?_
            refine L.M (M.al Y26) ?_
            refine L.S (S.stb Y26) ?_
            refine L.Y Y.asg ?_
            refine L.Y Y.asg ?_
            refine AList.nil ?_
            refine AWp.seq ?_
            refine AWp.seq ?_
            refine W.kp [0, 1, 2, 4, 5, 6, 7, 8, 9, 10, 11, 12, 13, 14, 15, 16, 17, 18, 23, 54, 59, 80, 88, 91] ?_
            refine AWp.region ?_
            refine L.S (S.ldN Tryd.underlying26 Y26) ?_
            refine L.S (S.ldN Tryd.underlying26 Y26) ?_
            replace h := Option.bind_eq_some_iff.1 h
            obtain ⟨t452, hc28, h⟩ := h
            refine L.C (C.callE (l := true) [] Tryd.func8 (laws_eqOrder.ac _ _ _ _ _ _ hc28) .nil ?_)
            refine L.Y Y.nt ?_
            refine L.Y Y.mv ?_
            refine L.Gc (fun hb => ?_) (fun hb => ?_)
            ·
             have hb29 := hb
             try simp only [hS, hE, ne_eq] at hb
             first | rw [if_pos hb29] at h | rw [if_neg (Bool.eq_false_iff.1 hb29)] at h | rw [if_pos hb] at h | rw [if_neg hb] at h | (simp only [hb, hT, reduceIte] at h) | skip
             exfalso
             revert h
             exact fun h => by cases k <;> simp [laws_FnExactNearestOf.j2] at h
            ·
             have hb29 := hb
             try simp only [hS, hE, ne_eq] at hb
             first | rw [if_pos hb29] at h | rw [if_neg (Bool.eq_false_iff.1 hb29)] at h | rw [if_pos hb] at h | rw [if_neg hb] at h | (simp only [hb, hT, reduceIte] at h) | skip
             refine L.Gy hb29 Y.mv ?_
             refine L.Gy hb29 Y.mv ?_
             refine L.Gy hb29 Y.bin ?_
             refine L.Y (Y.pk (c := false) hb29) ?_
             refine L.Y Y.mv ?_
             refine L.Gc (fun hb => ?_) (fun hb => ?_)
             ·
              have hb30 := hb
              try simp only [hS, hE, ne_eq] at hb
              first | rw [if_pos hb30] at h | rw [if_neg (Bool.eq_false_iff.1 hb30)] at h | rw [if_pos hb] at h | rw [if_neg hb] at h | (simp only [hb, hT, reduceIte] at h) | skip
              exfalso
              revert h
              exact fun h => by cases k <;> simp [laws_FnExactNearestOf.j2] at h
             ·
              have hb30 := hb
              try simp only [hS, hE, ne_eq] at hb
              first | rw [if_pos hb30] at h | rw [if_neg (Bool.eq_false_iff.1 hb30)] at h | rw [if_pos hb] at h | rw [if_neg hb] at h | (simp only [hb, hT, reduceIte] at h) | skip
              refine L.Gy hb30 Y.mv ?_
              refine L.Gy hb30 Y.mv ?_
              refine L.Gy hb30 (Y.bb Tryd.underlying4) ?_
              refine L.Y (Y.pk (c := false) hb30) ?_
              refine AList.nil ?_
              rcases k with _ | k
              ·
               exact absurd h (by simp [laws_FnExactNearestOf.j2])
              simp only [laws_FnExactNearestOf.j2] at h
              refine W.cond (fun hb => ?_) (fun hb => ?_)
              ·
               have hb31 := hb
               try simp only [hS, hE, ne_eq] at hb
               first | rw [if_pos hb31] at h | rw [if_neg (Bool.eq_false_iff.1 hb31)] at h | rw [if_pos hb] at h | rw [if_neg hb] at h | (simp only [hb, hT, reduceIte] at h) | skip
               exfalso
               revert h
               exact fun h => by simp at h
              ·
               have hb31 := hb
               try simp only [hS, hE, ne_eq] at hb
               first | rw [if_pos hb31] at h | rw [if_neg (Bool.eq_false_iff.1 hb31)] at h | rw [if_pos hb] at h | rw [if_neg hb] at h | (simp only [hb, hT, reduceIte] at h) | skip
               refine AWp.skip ?_
               refine AWp.seq ?_
               refine W.kp [0, 1, 2, 4, 5, 6, 7, 8, 9, 10, 11, 12, 13, 14, 15, 16, 17, 18, 23, 54, 59, 80, 88, 91, 113] ?_
               refine AWp.region ?_
               refine L.Y Y.asg ?_
               refine AList.nil ?_
               refine AWp.seq ?_
               refine AWp.region ?_
               refine L.S (S.ldN Tryd.underlying26 Y26) ?_
               refine L.Y Y.mv ?_
               replace h := Option.bind_eq_some_iff.1 h
               obtain ⟨t453, hc32, h⟩ := h
               refine L.C (C.callE (l := true) [] Tryd.func10 (laws_heldOrder.ac _ _ _ _ _ hc32) .nil ?_)
               refine L.Y Y.asg ?_
               refine AList.nil ?_
               refine AWp.seq ?_
               refine AWp.seq ?_
               refine AWp.region ?_
               refine L.Y Y.mv ?_
               refine L.Y Y.bin ?_
               refine AList.nil ?_
               refine W.cond (fun hb => ?_) (fun hb => ?_)
               ·
                have hb33 := hb
                try simp only [hS, hE, ne_eq] at hb
                first | rw [if_pos hb33] at h | rw [if_neg (Bool.eq_false_iff.1 hb33)] at h | rw [if_pos hb] at h | rw [if_neg hb] at h | (simp only [hb, hT, reduceIte] at h) | skip
                exfalso
                revert h
                exact fun h => by simp at h
               ·
                have hb33 := hb
                try simp only [hS, hE, ne_eq] at hb
                first | rw [if_pos hb33] at h | rw [if_neg (Bool.eq_false_iff.1 hb33)] at h | rw [if_pos hb] at h | rw [if_neg hb] at h | (simp only [hb, hT, reduceIte] at h) | skip
                refine AWp.skip ?_
                refine AWp.seq ?_
                refine AWp.seq ?_
                refine W.kp [0, 1, 2, 4, 5, 6, 7, 8, 9, 10, 11, 12, 13, 14, 15, 16, 17, 18, 23, 54, 59, 80, 88, 91, 113, 118] ?_
                refine AWp.region ?_
                refine L.Y Y.mv ?_
                refine L.Y Y.mv ?_
                refine L.Y Y.bin ?_
                refine AList.nil ?_
                refine W.cond (fun hb => ?_) (fun hb => ?_)
                ·
                 have hb34 := hb
                 try simp only [hS, hE, ne_eq] at hb
                 first | rw [if_pos hb34] at h | rw [if_neg (Bool.eq_false_iff.1 hb34)] at h | rw [if_pos hb] at h | rw [if_neg hb] at h | (simp only [hb, hT, reduceIte] at h) | skip
                 exfalso
                 revert h
                 exact fun h => by simp at h
                ·
                 have hb34 := hb
                 try simp only [hS, hE, ne_eq] at hb
                 first | rw [if_pos hb34] at h | rw [if_neg (Bool.eq_false_iff.1 hb34)] at h | rw [if_pos hb] at h | rw [if_neg hb] at h | (simp only [hb, hT, reduceIte] at h) | skip
                 refine AWp.skip ?_
                 refine AWp.seq ?_
                 refine AWp.region ?_
                 refine L.Y Y.asg ?_
                 refine AList.nil ?_
                 refine AWp.ret ?_
                 first | (exfalso; cases h; done) | exact ⟨.inr rfl, [(4, _)], _, ⟨rfl, rfl⟩, IsPart.at [] [] base0 .nil (E.c .nil (hs := Sub.litE (LV h)))⟩

/-- THE ONE PURE STATEMENT of laws_FnExactNearestOf: yours. -/
def laws_FnExactNearestOf.Pure : Prop := ∀ (a0_0 : Int) (l0_1 : List Int) (a1 : Int), (Lit.int .i64 a0_0).wf = true → l0_1.length ≤ maxLen → (∀ x ∈ l0_1, (Lit.int .i64 x).wf = true) → (Lit.int .i64 a1).wf = true → ∃ k, laws_FnExactNearestOf.f k a0_0 l0_1 a1 = some true
theorem laws_FnExactNearestOf.walk (P : laws_FnExactNearestOf.Pure) (a0_0 : Int) (a0_1 : Option Addr) (len0_1 cap0_1 : Nat) (z0_1 : List Int) (a1 : Int) (w : World) (hT : TabIn w) (w0_0 : (Lit.int .i64 a0_0).wf = true) (w0_1 : (a0_1 = none ∧ len0_1 = 0 ∧ cap0_1 = 0 ∧ z0_1 = []) ∨ ∃ x, a0_1 = some x ∧ len0_1 ≤ cap0_1 ∧ cap0_1 ≤ maxLen ∧ z0_1.length = cap0_1 ∧ (∀ i, i < z0_1.length → w.cell? (x.add i) = some (.int .i64 (z0_1.getD i 0))) ∧ ∀ n ∈ z0_1, (Lit.int .i64 n).wf = true) (w1 : (Lit.int .i64 a1).wf = true) :
  Calls Tryd.prog 3 #[.agg #[.int .i64 a0_0, .slice a0_1 len0_1 cap0_1], .int .i64 a1] w fun e w' => e = .returned (.bool true) ∧ Below w.heap.size w w' := by
 obtain ⟨hl0_1, hv0_1⟩ := VR.came (A0 := fun _ => .bool false) (H := []) w0_1
 obtain ⟨hm0_1, hw0_1⟩ := came_fits w0_1
 obtain ⟨k, h⟩ := P a0_0 (z0_1.take len0_1) a1 w0_0 hm0_1 hw0_1 w1
 refine ACalls.law (vs := [.agg #[.int .i64 a0_0, .slice a0_1 len0_1 cap0_1], .int .i64 a1]) (tabP_of hT) (laws_FnExactNearestOf.ac k a0_0 (z0_1.take len0_1) a1 h) ?_
 repeat' first | assumption | exact VRs_nil | exact VR_lit | refine VRs_cons ?_ ?_ | refine VR_agg ?_

end Go.Proofs.YtdaneldckdjjoaaDoor.PFnExactNearestOf
