-- Written by a program of this session's (wip/myprint2): the functions by the kit's print, the walks by awgen.py. Lean checks it.
import Derived.Test.YtdaneldckdjjoaaDoorPFnExactNearestOfx0
namespace Go.Proofs.YtdaneldckdjjoaaDoor.PFnExactNearestOf
open Go.RowKit Go.Proofs.YtdaneldckdjjoaaDoorW.PrintWords Go.Proofs.YtdaneldckdjjoaaDoorW.PrintLast Go.Proofs.YtdaneldckdjjoaaDoorW.PrintMore Go.Proofs.YtdaneldckdjjoaaDoorM Go.Proofs.YtdaneldckdjjoaaDoorA Go.Proofs.YtdaneldckdjjoaaDoorT
attribute [local go_sem] max2_int min2_int max_two min_two max_three min_three max_four min_four   -- for this text's walks alone
set_option linter.unusedVariables false
set_option linter.unusedSimpArgs false

/-! ### laws_toIntS: function 17 -/
def laws_toIntS.l0 : Nat → List Int → List Int → Int → Option (List Int)
 | 0, _, _, _ => none
 | k + 1, x0, x3, x4 => if x4 < (x0.length : Int) then (if 0 ≤ x4 then (if x4 < (x3.length : Int) then (laws_toIntS.l0 k x0 (x3.set (x4 : Int).toNat (rd x0 x4)) (wrap64 (x4 + 1))) else (none)) else (none)) else (some x3)
def laws_toIntS.f (k : Nat) (l0 : List Int) : Option (List Int) := if 0 ≤ (l0.length : Int) then (if ((l0.length : Int) : Int).toNat ≤ 35184372088832 then (laws_toIntS.l0 k l0 (List.replicate ((l0.length : Int) : Int).toNat 0) 0) else (none)) else (none)
set_option maxRecDepth 100000 in
set_option maxHeartbeats 20000000 in
theorem laws_toIntS.ac (k : Nat) (l0 : List Int) (r : List Int) (h : laws_toIntS.f k l0 = some r) :
  ACalls Tryd.prog 17 [.row 1 l0.length false (ints .i64 l0)] [] (fun v H' => v = .own 0 r.length ∧ H' = [.sl 3 1 r.length false (ints .i64 r)]) := by
 refine ACalls.ofP [2] Tryd.func17 rfl (by exact Nat.le_of_ble_eq_true rfl) rfl (by decide) ?_
 simp only [Tryd.ntmps17, env0, laws_toIntS.f] at h ⊢
 repeat (first | (rw [iN] at h; obtain ⟨_, h⟩ := h) | (rw [iP] at h; obtain ⟨_, h⟩ := h) | (simp only [bS] at h))
 refine AWp.seq ?_
 refine AWp.region ?_
 refine L.Y Y.asg ?_
 refine AList.nil ?_
 refine AWp.seq ?_
 refine AWp.region ?_
 refine L.Y Y.mv ?_
 refine L.Y (Y.ln Tryd.underlying22) ?_
 refine L.M (M.mk Tryd.underlying22 Y3) ?_
 refine L.Y Y.asg ?_
 refine AList.nil ?_
 refine AWp.seq ?_
 refine AWp.seq ?_
 refine AWp.region ?_
 refine L.Y Y.asg ?_
 refine AList.nil ?_
 refine AWp.block ?_
 refine AWp.loopI (fun kk e H => kk ≤ k ∧ ∃ (x3 : List Int) (x4 : Int), e = [(0, .row 1 l0.length false (ints .i64 l0)), (2, .lit (.slice none 0 0)), (3, .own 0 x3.length), (4, .lit (.int .i64 x4))] ∧ H = [.sl 3 1 x3.length true (ints .i64 x3)] ∧ laws_toIntS.l0 kk l0 x3 x4 = some r) (k := k)
  ⟨_, _, ⟨Nat.le_refl _, _, _, rfl, rfl, h⟩, IsPart.at [] [0] base0 (H.c .nil) (E.c (E.c (E.c (E.c .nil))))⟩ ?_
 clear h
 rintro k1 e H ⟨hk2, x3, x4, rfl, rfl, h⟩
 cases k1 with
 | zero => exact absurd h (by simp [laws_toIntS.l0])
 | succ k1 =>
 simp only [laws_toIntS.l0] at h
 refine AWp.seq ?_
 refine AWp.seq ?_
 refine AWp.region ?_
 refine L.Y Y.mv ?_
 refine L.Y Y.mv ?_
 refine L.Y (Y.ln Tryd.underlying22) ?_
 refine L.Y Y.bin ?_
 refine AList.nil ?_
 refine W.cond (fun hb => ?_) (fun hb => ?_)
 ·
  have hb3 := hb
  try simp only [hS, hE, ne_eq] at hb
  first | rw [if_pos hb3] at h | rw [if_neg (Bool.eq_false_iff.1 hb3)] at h | rw [if_pos hb] at h | rw [if_neg hb] at h | (simp only [hb, hT, reduceIte] at h) | skip
  repeat (first | (rw [iN] at h; obtain ⟨_, h⟩ := h) | (rw [iP] at h; obtain ⟨_, h⟩ := h) | (simp only [bS] at h))
  refine AWp.skip ?_
  refine AWp.seq ?_
  refine AWp.block ?_
  refine AWp.region ?_
  refine L.Y Y.mv ?_
  refine L.Y Y.mv ?_
  refine L.Y Y.mv ?_
  refine L.Y Y.mv ?_
  refine L.Y (Y.ixr Tryd.underlying22 Y3) ?_
  refine L.S (S.ld Tryd.underlying3) ?_
  refine L.Y (Y.ixo Tryd.underlying22 Y3) ?_
  refine L.S (S.sts Y3) ?_
  refine AList.nil ?_
  refine W.kp [0, 2, 3, 4, 11] ?_
  refine AWp.region ?_
  refine L.Y Y.mv ?_
  refine L.Y Y.bin ?_
  refine L.Y Y.asg ?_
  refine AList.nil ?_
  exact ⟨k1, by omega, _, _, ⟨by omega, _, _, rfl, rfl, h⟩, IsPart.at [] [0] base0 (H.c .nil) (E.c (E.c (E.c (E.c .nil))))⟩
 ·
  have hb3 := hb
  try simp only [hS, hE, ne_eq] at hb
  first | rw [if_pos hb3] at h | rw [if_neg (Bool.eq_false_iff.1 hb3)] at h | rw [if_pos hb] at h | rw [if_neg hb] at h | (simp only [hb, hT, reduceIte] at h) | skip
  refine AWp.exit ?_
  refine AWp.seq ?_
  refine AWp.region ?_
  refine L.Y Y.mv ?_
  refine L.Y Y.asg ?_
  refine AList.nil ?_
  obtain rfl := Option.some.inj h
  refine AWp.ret ?_
  exact ⟨.inr rfl, [(2, _)], _, ⟨rfl, rfl⟩, IsPart.at [] [0] base0 (H.c .nil) (E.c .nil)⟩

/-! ### laws_toOrder: function 6 -/
def laws_toOrder.f (k : Nat) (a0_0 : Int) (l0_1 : List Int) : Option (Int × List Int) := (laws_toIntS.f k l0_1).bind fun t257 => (some (a0_0, t257))
set_option maxRecDepth 100000 in
set_option maxHeartbeats 20000000 in
theorem laws_toOrder.ac (k : Nat) (a0_0 : Int) (l0_1 : List Int) (r1 : Int) (r2 : List Int) (h : laws_toOrder.f k a0_0 l0_1 = some (r1, r2)) :
  ACalls Tryd.prog 6 [.agg [.lit (.int .i64 a0_0), .row 1 l0_1.length false (ints .i64 l0_1)]] [] (fun v H' => v = .agg [.lit (.int .i64 r1), .own 0 r2.length] ∧ H' = [.sl 3 1 r2.length false (ints .i64 r2)]) := by
 refine ACalls.ofV Tryd.func6 rfl (by exact Nat.le_of_ble_eq_true rfl) ?_
 simp only [Tryd.ntmps6, env0, laws_toOrder.f] at h ⊢
 refine AWp.seq ?_
 refine AWp.region ?_
 refine L.M M.bx ?_
 refine L.M (M.al Y26) ?_
 refine AList.nil ?_
 refine AWp.seq ?_
 refine AWp.region ?_
 refine L.M (M.al Y26) ?_
 refine AList.nil ?_
 refine AWp.seq ?_
 refine AWp.region ?_
 refine L.Y (Y.fa (off := 0) Tryd.underlying24 Y3) ?_
 refine L.S (S.ld Tryd.underlying3) ?_
 refine L.Y (Y.fa (off := 0) Tryd.underlying26 Y3) ?_
 refine L.S (S.stb Y3) ?_
 refine AList.nil ?_
 refine AWp.seq ?_
 refine AWp.region ?_
 refine L.Y (Y.fa (off := 1) Tryd.underlying24 Y22) ?_
 refine L.S (S.ld Tryd.underlying22) ?_
 replace h := Option.bind_eq_some_iff.1 h
 obtain ⟨t257, hc1, h⟩ := h
 refine L.C (C.callE (l := true) [] Tryd.func17 (laws_toIntS.ac _ _ _ hc1) .nil ?_)
 refine L.Y (Y.fa (off := 1) Tryd.underlying26 Y22) ?_
 refine L.S (S.stb Y22) ?_
 refine AList.nil ?_
 refine AWp.seq ?_
 refine W.kp [0, 1, 2, 3] ?_
 refine AWp.region ?_
 refine L.S (S.ldN Tryd.underlying26 Y26) ?_
 refine L.S (S.stb Y26) ?_
 refine AList.nil ?_
 simp only [Option.some.injEq, Prod.mk.injEq] at h
 obtain ⟨rfl, rfl⟩ := h
 refine AWp.ret ?_
 exact ⟨.inr rfl, _, _, _, Res.cl Tryd.underlying26 Y26, ⟨rfl, rfl⟩, PartV.at [] [3] base0 (H.c .nil)⟩

/-! ### impl_within: function 31 -/
def impl_within.f (a0 : Int) (a1 : Int) (a2 : Int) : Option (Bool) := if a0 ≥ a1 then (some (decide (a0 ≤ a2))) else (some false)
set_option maxRecDepth 100000 in
set_option maxHeartbeats 20000000 in
theorem impl_within.ac (a0 : Int) (a1 : Int) (a2 : Int) (r : Bool) (h : impl_within.f a0 a1 a2 = some r) :
  ACalls Tryd.prog 31 [.lit (.int .i64 a0), .lit (.int .i64 a1), .lit (.int .i64 a2)] [] (fun v H' => v = .lit (.bool r) ∧ H' = []) := by
 refine ACalls.ofP [6] Tryd.func31 rfl (by exact Nat.le_of_ble_eq_true rfl) rfl (by decide) ?_
 simp only [Tryd.ntmps31, env0, impl_within.f] at h ⊢
 refine AWp.seq ?_
 refine AWp.region ?_
 refine L.Y Y.asg ?_
 refine AList.nil ?_
 refine AWp.seq ?_
 refine AWp.region ?_
 refine L.Y Y.mv ?_
 refine L.Y Y.mv ?_
 refine L.Y Y.bin ?_
 refine L.Y Y.mv ?_
 refine L.Gc (fun hb => ?_) (fun hb => ?_)
 ·
  have hb1 := hb
  try simp only [hS, hE, ne_eq] at hb
  first | rw [if_pos hb1] at h | rw [if_neg (Bool.eq_false_iff.1 hb1)] at h | rw [if_pos hb] at h | rw [if_neg hb] at h | (simp only [hb, hT, reduceIte] at h) | skip
  refine L.Gy hb1 Y.mv ?_
  refine L.Gy hb1 Y.mv ?_
  refine L.Gy hb1 Y.bin ?_
  refine L.Y (Y.pk (c := true) hb1) ?_
  refine L.Y Y.asg ?_
  refine AList.nil ?_
  obtain rfl := Option.some.inj h
  refine AWp.ret ?_
  exact ⟨.inr rfl, [(6, _)], _, ⟨rfl, rfl⟩, IsPart.at [] [] base0 .nil (E.c .nil)⟩
 ·
  have hb1 := hb
  try simp only [hS, hE, ne_eq] at hb
  first | rw [if_pos hb1] at h | rw [if_neg (Bool.eq_false_iff.1 hb1)] at h | rw [if_pos hb] at h | rw [if_neg hb] at h | (simp only [hb, hT, reduceIte] at h) | skip
  refine L.Gn hb1 ?_
  refine L.Gn hb1 ?_
  refine L.Gn hb1 ?_
  refine L.Y (Y.pk (c := false) hb1) ?_
  refine L.Y Y.asg ?_
  refine AList.nil ?_
  obtain rfl := Option.some.inj h
  refine AWp.ret ?_
  exact ⟨.inr rfl, [(6, _)], _, ⟨rfl, rfl⟩, IsPart.at [] [] base0 .nil (E.c .nil)⟩

/-! ### impl_allWithin: function 32 -/
def impl_allWithin.l0 : Nat → Int → Int → List Int → Int → Int → Option (Bool)
 | 0, _, _, _, _, _ => none
 | k + 1, x1, x2, x9, x10, x11 => if x11 < x10 then (if 0 ≤ x11 then (if x11 < (x9.length : Int) then ((impl_within.f (rd x9 x11) x1 x2).bind fun t261 => (if t261 = true then (impl_allWithin.l0 k x1 x2 x9 x10 (wrap64 (x11 + 1))) else (some false))) else (none)) else (none)) else (some true)
def impl_allWithin.f (k : Nat) (l0 : List Int) (a1 : Int) (a2 : Int) : Option (Bool) := impl_allWithin.l0 k a1 a2 l0 (l0.length : Int) 0
set_option maxRecDepth 100000 in
set_option maxHeartbeats 20000000 in
theorem impl_allWithin.ac (k : Nat) (l0 : List Int) (a1 : Int) (a2 : Int) (r : Bool) (h : impl_allWithin.f k l0 a1 a2 = some r) :
  ACalls Tryd.prog 32 [.row 1 l0.length false (ints .i64 l0), .lit (.int .i64 a1), .lit (.int .i64 a2)] [] (fun v H' => v = .lit (.bool r) ∧ H' = []) := by
 refine ACalls.ofP [6] Tryd.func32 rfl (by exact Nat.le_of_ble_eq_true rfl) rfl (by decide) ?_
 simp only [Tryd.ntmps32, env0, impl_allWithin.f] at h ⊢
 refine AWp.seq ?_
 refine AWp.region ?_
 refine L.Y Y.asg ?_
 refine AList.nil ?_
 refine AWp.seq ?_
 refine AWp.seq ?_
 refine AWp.region ?_
 refine L.Y Y.mv ?_
 refine L.Y (Y.ln Tryd.underlying22) ?_
 refine L.Y Y.mv ?_
 refine AList.nil ?_
 refine AWp.block ?_
 refine AWp.loopI (fun kk e H => kk ≤ k ∧ ∃ (x1 : Int) (x2 : Int) (x10 : Int) (x11 : Int), e = [(1, .lit (.int .i64 x1)), (2, .lit (.int .i64 x2)), (9, .row 1 l0.length false (ints .i64 l0)), (10, .lit (.int .i64 x10)), (11, .lit (.int .i64 x11))] ∧ H = [] ∧ impl_allWithin.l0 kk x1 x2 l0 x10 x11 = some r) (k := k)
  ⟨_, _, ⟨Nat.le_refl _, _, _, _, _, rfl, rfl, h⟩, IsPart.at [] [] base0 .nil (E.c (E.c (E.c (E.c (E.c .nil)))))⟩ ?_
 clear h
 rintro k1 e H ⟨hk2, x1, x2, x10, x11, rfl, rfl, h⟩
 cases k1 with
 | zero => exact absurd h (by simp [impl_allWithin.l0])
 | succ k1 =>
 simp only [impl_allWithin.l0] at h
 refine AWp.seq ?_
 refine AWp.region ?_
 refine L.Y Y.bin ?_
 refine AList.nil ?_
 refine AWp.seq ?_
 refine W.cond (fun hb => ?_) (fun hb => ?_)
 ·
  have hb3 := hb
  try simp only [hS, hE, ne_eq] at hb
  first | rw [if_pos hb3] at h | rw [if_neg (Bool.eq_false_iff.1 hb3)] at h | rw [if_pos hb] at h | rw [if_neg hb] at h | (simp only [hb, hT, reduceIte] at h) | skip
  repeat (first | (rw [iN] at h; obtain ⟨_, h⟩ := h) | (rw [iP] at h; obtain ⟨_, h⟩ := h) | (simp only [bS] at h))
  refine AWp.skip ?_
  refine AWp.seq ?_
  refine AWp.block ?_
  refine AWp.seq ?_
  refine AWp.region ?_
  refine L.Y (Y.ixr Tryd.underlying22 Y3) ?_
  refine L.S (S.ld Tryd.underlying3) ?_
  refine L.Y Y.asg ?_
  refine AList.nil ?_
  refine AWp.seq ?_
  refine AWp.region ?_
  refine L.Y Y.mv ?_
  refine L.Y Y.mv ?_
  refine L.Y Y.mv ?_
  replace h := Option.bind_eq_some_iff.1 h
  obtain ⟨t261, hc4, h⟩ := h
  refine L.C (C.callE (l := true) [] Tryd.func31 (impl_within.ac _ _ _ _ hc4) .nil ?_)
  refine L.Y Y.nt ?_
  refine AList.nil ?_
  refine W.cond (fun hb => ?_) (fun hb => ?_)
  ·
   have hb5 := hb
   try simp only [hS, hE, ne_eq] at hb
   first | rw [if_pos hb5] at h | rw [if_neg (Bool.eq_false_iff.1 hb5)] at h | rw [if_pos hb] at h | rw [if_neg hb] at h | (simp only [hb, hT, reduceIte] at h) | skip
   refine AWp.seq ?_
   refine W.kp [1, 2, 8, 9, 10, 11, 12, 19] ?_
   refine AWp.region ?_
   refine L.Y Y.asg ?_
   refine AList.nil ?_
   obtain rfl := Option.some.inj h
   refine AWp.ret ?_
   exact ⟨.inr rfl, [(6, _)], _, ⟨rfl, rfl⟩, IsPart.at [] [] base0 .nil (E.c .nil)⟩
  ·
   have hb5 := hb
   try simp only [hS, hE, ne_eq] at hb
   first | rw [if_pos hb5] at h | rw [if_neg (Bool.eq_false_iff.1 hb5)] at h | rw [if_pos hb] at h | rw [if_neg hb] at h | (simp only [hb, hT, reduceIte] at h) | skip
   refine AWp.skip ?_
   refine W.kp [1, 2, 8, 9, 10, 11, 12, 19] ?_
   refine AWp.region ?_
   refine L.Y Y.bin ?_
   refine L.Y Y.mv ?_
   refine AList.nil ?_
   exact ⟨k1, by omega, _, _, ⟨by omega, _, _, _, _, rfl, rfl, h⟩, IsPart.at [] [] base0 .nil (E.c (E.c (E.c (E.c (E.c .nil)))))⟩
 ·
  have hb3 := hb
  try simp only [hS, hE, ne_eq] at hb
  first | rw [if_pos hb3] at h | rw [if_neg (Bool.eq_false_iff.1 hb3)] at h | rw [if_pos hb] at h | rw [if_neg hb] at h | (simp only [hb, hT, reduceIte] at h) | skip
  refine AWp.exit ?_
  refine AWp.seq ?_
  refine AWp.region ?_
  refine L.Y Y.asg ?_
  refine AList.nil ?_
  obtain rfl := Option.some.inj h
  refine AWp.ret ?_
  exact ⟨.inr rfl, [(6, _)], _, ⟨rfl, rfl⟩, IsPart.at [] [] base0 .nil (E.c .nil)⟩

/-! ### impl_IsRelation: function 18 -/
def impl_IsRelation.f (k : Nat) (a0_0 : Int) (l0_1 : List Int) : Option (Bool) := (impl_within.f a0_0 0 10).bind fun t263 => (if t263 = true then (if (l0_1.length : Int) = a0_0 then (if 0 ≤ a0_0 then ((impl_allWithin.f k l0_1 0 (wrap64 ((shl .i64 1 a0_0) - 1))).bind fun t264 => (some t264)) else (none)) else (some false)) else (some false))
set_option maxRecDepth 100000 in
set_option maxHeartbeats 20000000 in
theorem impl_IsRelation.ac (k : Nat) (a0_0 : Int) (l0_1 : List Int) (r : Bool) (h : impl_IsRelation.f k a0_0 l0_1 = some r) :
  ACalls Tryd.prog 18 [.agg [.lit (.int .i64 a0_0), .row 1 l0_1.length false (ints .i64 l0_1)]] [] (fun v H' => v = .lit (.bool r) ∧ H' = []) := by
 refine ACalls.ofP [2] Tryd.func18 rfl (by exact Nat.le_of_ble_eq_true rfl) rfl (by decide) ?_
 simp only [Tryd.ntmps18, env0, impl_IsRelation.f] at h ⊢
 refine AWp.seq ?_
 refine AWp.region ?_
 refine L.M M.bx ?_
 refine L.Y Y.asg ?_
 refine AList.nil ?_
 refine AWp.seq ?_
 refine Dt.reg [] [] (.y 0 (.t 1 (.one 2 (.y 3 (.y 4 (.t 5 (.y 6 (.y 7 (.t 8 (.y 9 (.y 10 (.y 11 (.y 12 (.t 13 (.y 14 (.t 15 (.y 16 (.y 17 (.one 18 (.y 19 (.y 20 .done))))))))))))))))))))) HM ?_
 refine Dt.Y rfl wantN (Y.fa (off := 0) Tryd.underlying26 Y3) ?_
 refine Dt.T rfl wantN (D.ld Tryd.underlying3) ?_
 refine Dt.O (g' := false) rfl wantN ?_
 replace h := Option.bind_eq_some_iff.1 h
 obtain ⟨t263, hc1, h⟩ := h
 refine Ox.C true [] Tryd.func31 (impl_within.ac _ _ _ _ hc1) .nil ?_
 refine Dt.Y rfl wantN Y.mv ?_
 refine Dt.F 6 (fun hb => ?_) (fun hb => ?_)
 ·
  have hb2 := hb
  try simp only [hS, hE, ne_eq] at hb
  first | rw [if_pos hb2] at h | rw [if_neg (Bool.eq_false_iff.1 hb2)] at h | rw [if_pos hb] at h | rw [if_neg hb] at h | (simp only [hb, hT, reduceIte] at h) | skip
  refine Dt.Y rfl (wantY hb2) (Y.fa (off := 1) Tryd.underlying26 Y22) ?_
  refine Dt.T rfl (wantY hb2) (D.ld Tryd.underlying22) ?_
  refine Dt.Y rfl (wantY hb2) (Y.ln Tryd.underlying22) ?_
  refine Dt.Y rfl (wantY hb2) (Y.fa (off := 0) Tryd.underlying26 Y3) ?_
  refine Dt.T rfl (wantY hb2) (D.ld Tryd.underlying3) ?_
  refine Dt.Y rfl (wantY hb2) Y.bin ?_
  refine Dt.Y rfl wantN (Y.pk (c := true) hb2) ?_
  refine Dt.Y rfl wantN Y.mv ?_
  refine Dt.F 14 (fun hb => ?_) (fun hb => ?_)
  ·
   have hb3 := hb
   try simp only [hS, hE, ne_eq] at hb
   first | rw [if_pos hb3] at h | rw [if_neg (Bool.eq_false_iff.1 hb3)] at h | rw [if_pos hb] at h | rw [if_neg hb] at h | (simp only [hb, hT, reduceIte] at h) | skip
   repeat (first | (rw [iN] at h; obtain ⟨_, h⟩ := h) | (rw [iP] at h; obtain ⟨_, h⟩ := h) | (simp only [bS] at h))
   refine Dt.Y rfl (wantY hb3) (Y.fa (off := 1) Tryd.underlying26 Y22) ?_
   refine Dt.T rfl (wantY hb3) (D.ld Tryd.underlying22) ?_
   refine Dt.Y rfl (wantY hb3) (Y.fa (off := 0) Tryd.underlying26 Y3) ?_
   refine Dt.T rfl (wantY hb3) (D.ld Tryd.underlying3) ?_
   refine Dt.Y rfl (wantY hb3) Y.bin ?_
   refine Dt.Y rfl (wantY hb3) Y.bin ?_
   refine Dt.O (g' := false) rfl (wantY hb3) ?_
   replace h := Option.bind_eq_some_iff.1 h
   obtain ⟨t264, hc4, h⟩ := h
   refine Ox.C true [] Tryd.func32 (impl_allWithin.ac _ _ _ _ _ hc4) .nil ?_
   refine Dt.Y rfl wantN (Y.pk (c := true) hb3) ?_
   refine Dt.Y rfl wantN Y.asg ?_
   refine Dt.nil ?_
   obtain rfl := Option.some.inj h
   refine AWp.ret ?_
   exact ⟨.inr rfl, [(2, _)], _, ⟨rfl, rfl⟩, IsPart.at [] [] base0 .nil (E.c .nil)⟩
  ·
   have hb3 := hb
   try simp only [hS, hE, ne_eq] at hb
   first | rw [if_pos hb3] at h | rw [if_neg (Bool.eq_false_iff.1 hb3)] at h | rw [if_pos hb] at h | rw [if_neg hb] at h | (simp only [hb, hT, reduceIte] at h) | skip
   refine Dt.No rfl (wantZ hb3) ?_
   refine Dt.Nt rfl (wantZ hb3) ?_
   refine Dt.No rfl (wantZ hb3) ?_
   refine Dt.Nt rfl (wantZ hb3) ?_
   refine Dt.No rfl (wantZ hb3) ?_
   refine Dt.No rfl (wantZ hb3) ?_
   refine Dt.Po rfl (wantZ hb3) ?_
   refine Dt.Y rfl wantN (Y.pk (c := false) hb3) ?_
   refine Dt.Y rfl wantN Y.asg ?_
   refine Dt.nil ?_
   obtain rfl := Option.some.inj h
   refine AWp.ret ?_
   exact ⟨.inr rfl, [(2, _)], _, ⟨rfl, rfl⟩, IsPart.at [] [] base0 .nil (E.c .nil)⟩
 ·
  have hb2 := hb
  try simp only [hS, hE, ne_eq] at hb
  first | rw [if_pos hb2] at h | rw [if_neg (Bool.eq_false_iff.1 hb2)] at h | rw [if_pos hb] at h | rw [if_neg hb] at h | (simp only [hb, hT, reduceIte] at h) | skip
  refine Dt.No rfl (wantZ hb2) ?_
  refine Dt.Nt rfl (wantZ hb2) ?_
  refine Dt.No rfl (wantZ hb2) ?_
  refine Dt.No rfl (wantZ hb2) ?_
  refine Dt.Nt rfl (wantZ hb2) ?_
  refine Dt.No rfl (wantZ hb2) ?_
  refine Dt.Y rfl wantN (Y.pk (c := false) hb2) ?_
  refine Dt.Y rfl wantN Y.mv ?_
  refine Dt.F 14 (fun hb => ?_) (fun hb => ?_)
  ·
   first | exact Bool.false_ne_true ((Eq.symm (by assumption)).trans hb) | exact Bool.false_ne_true (hb.symm.trans (by assumption)) | exact DD hb
  have hb5 := hb
  refine Dt.No rfl (wantZ hb5) ?_
  refine Dt.Nt rfl (wantZ hb5) ?_
  refine Dt.No rfl (wantZ hb5) ?_
  refine Dt.Nt rfl (wantZ hb5) ?_
  refine Dt.No rfl (wantZ hb5) ?_
  refine Dt.No rfl (wantZ hb5) ?_
  refine Dt.Po rfl (wantZ hb5) ?_
  refine Dt.Y rfl wantN (Y.pk (c := false) hb5) ?_
  refine Dt.Y rfl wantN Y.asg ?_
  refine Dt.nil ?_
  obtain rfl := Option.some.inj h
  refine AWp.ret ?_
  exact ⟨.inr rfl, [(2, _)], _, ⟨rfl, rfl⟩, IsPart.at [] [] base0 .nil (E.c .nil)⟩

/-! ### impl_isChoiceKind: function 19 -/
def impl_isChoiceKind.f (a0 : Int) (a1 : Int) : Option (Bool) := (impl_within.f a0 0 4).bind fun t265 => (if t265 = true then ((impl_within.f a1 0 3).bind fun t266 => (some t266)) else (some false))
set_option maxRecDepth 100000 in
set_option maxHeartbeats 20000000 in
theorem impl_isChoiceKind.ac (a0 : Int) (a1 : Int) (r : Bool) (h : impl_isChoiceKind.f a0 a1 = some r) :
  ACalls Tryd.prog 19 [.lit (.int .i64 a0), .lit (.int .i64 a1)] [] (fun v H' => v = .lit (.bool r) ∧ H' = []) := by
 refine ACalls.ofP [4] Tryd.func19 rfl (by exact Nat.le_of_ble_eq_true rfl) rfl (by decide) ?_
 simp only [Tryd.ntmps19, env0, impl_isChoiceKind.f] at h ⊢
 refine AWp.seq ?_
 refine AWp.region ?_
 refine L.Y Y.asg ?_
 refine AList.nil ?_
 refine AWp.seq ?_
 refine AWp.region ?_
 refine L.Y Y.mv ?_
 replace h := Option.bind_eq_some_iff.1 h
 obtain ⟨t265, hc1, h⟩ := h
 refine L.C (C.callE (l := true) [] Tryd.func31 (impl_within.ac _ _ _ _ hc1) .nil ?_)
 refine L.Y Y.mv ?_
 refine L.Gc (fun hb => ?_) (fun hb => ?_)
 ·
  have hb2 := hb
  try simp only [hS, hE, ne_eq] at hb
  first | rw [if_pos hb2] at h | rw [if_neg (Bool.eq_false_iff.1 hb2)] at h | rw [if_pos hb] at h | rw [if_neg hb] at h | (simp only [hb, hT, reduceIte] at h) | skip
  refine L.Gy hb2 Y.mv ?_
  replace h := Option.bind_eq_some_iff.1 h
  obtain ⟨t266, hc3, h⟩ := h
  refine L.GC hb2 (C.callE (l := true) [] Tryd.func31 (impl_within.ac _ _ _ _ hc3) .nil ?_)
  refine L.Y (Y.pk (c := true) hb2) ?_
  refine L.Y Y.asg ?_
  refine AList.nil ?_
  obtain rfl := Option.some.inj h
  refine AWp.ret ?_
  exact ⟨.inr rfl, [(4, _)], _, ⟨rfl, rfl⟩, IsPart.at [] [] base0 .nil (E.c .nil)⟩
 ·
  have hb2 := hb
  try simp only [hS, hE, ne_eq] at hb
  first | rw [if_pos hb2] at h | rw [if_neg (Bool.eq_false_iff.1 hb2)] at h | rw [if_pos hb] at h | rw [if_neg hb] at h | (simp only [hb, hT, reduceIte] at h) | skip
  refine L.Gn hb2 ?_
  refine L.Gn hb2 ?_
  refine L.Y (Y.pk (c := false) hb2) ?_
  refine L.Y Y.asg ?_
  refine AList.nil ?_
  obtain rfl := Option.some.inj h
  refine AWp.ret ?_
  exact ⟨.inr rfl, [(4, _)], _, ⟨rfl, rfl⟩, IsPart.at [] [] base0 .nil (E.c .nil)⟩

/-! ### slices_Clone_int_int: function 34 -/
def slices_Clone_int_int.f (l0 : List Int) : Option (List Int) := if l0.length * 8 ≤ 140737488355328 then some l0 else none
def slices_Clone_int_int.ren : Go.Shelf.Ren := ⟨fun | 15 => 34 | n => n, fun | 3 => 3 | 4 => 4 | 22 => 22 | n => n, fun n => n⟩
theorem slices_Clone_int_int.lays : Go.Proofs.Lays2.n15 Tryd.prog slices_Clone_int_int.ren where
 mixed := by kernel_rfl
 f15 := Tryd.func34.trans (congrArg some (by kernel_rfl))
 t3 := Tryd.underlying3
 a3 := Tryd.isAgg3
 z3 := Tryd.sizeOf3
 v3 := Tryd.zeroValue3
 t4 := Tryd.underlying4
 a4 := Tryd.isAgg4
 z4 := Tryd.sizeOf4
 v4 := Tryd.zeroValue4
 t22 := Tryd.underlying22
 a22 := Tryd.isAgg22
 z22 := Tryd.sizeOf22
 v22 := Tryd.zeroValue22
 i3 := by kernel_rfl
theorem slices_Clone_int_int.row {w : World} {v : Value} {base : Nat} {xs : List Int} (h : w.ownsRow base 3 1 v xs.length (xs.map (Value.int .i64))) : Kd.R (Kd.int .i64) 3 w base (fun _ => True) v xs := by
 refine ⟨fun _ _ => trivial, xs.map (Value.int .i64), h, ⟨by simp [Kd.int, Kd.scalar], fun j p hj => ?_⟩⟩
 show ((xs.map (Value.int .i64)).drop (j * 1)).take 1 = [Value.int .i64 p]
 obtain ⟨hl, rfl⟩ := List.getElem?_eq_some_iff.1 hj
 rw [Nat.mul_one, List.drop_eq_getElem_cons (by simpa using hl)]
 simp
theorem slices_Clone_int_int.calls (A0 : Option Addr) (c0 : Nat) (l0 : List Int) (r : List Int) (w : World) (hr0 : Kd.C (Kd.int .i64) w A0 l0.length l0) (hc0 : l0.length ≤ c0) (h : slices_Clone_int_int.f l0 = some r) :
  Calls Tryd.prog 34 #[.slice A0 l0.length c0] w fun e w' => ∃ v0_ : Value, e = .returned (v0_) ∧ Kd.R (Kd.int .i64) 3 w' w.heap.size (fun _ => True) v0_ r ∧ Below w.heap.size w w' := by
 unfold slices_Clone_int_int.f at h
 by_cases hb : l0.length * 8 ≤ 140737488355328
 ·
  rw [if_pos hb] at h
  injection h with h
  subst h
  obtain ⟨_, _, hcell⟩ := hr0
  cases A0 with
  | none =>
   have h0 : l0 = [] := by
    apply List.eq_nil_of_length_eq_zero
    apply Nat.eq_zero_of_not_pos
    intro hp
    obtain ⟨ad, e, _⟩ := hcell hp
    cases e
   refine (Any.slices_Clone_int_nil slices_Clone_int_int.lays l0.length c0 w).mono ?_
   rintro e w' ⟨rfl, rfl⟩
   refine ⟨_, rfl, ?_, Below.refl _ _⟩
   rw [h0]
   exact Kd.R_nil _ _ _ _ _
  | some ad =>
   by_cases hp : 0 < l0.length
   ·
    obtain ⟨ad', e, hc⟩ := hcell hp
    cases e
    have hcc : ∀ j, j < l0.length → w.cell? (ad.add j) = some (.int .i64 (l0.getD j 0)) := by
     intro j hj
     obtain ⟨c, hlen, hk, hcells⟩ := hc j l0[j] (List.getElem?_eq_getElem hj)
     have hk' : c = [Value.int .i64 l0[j]] := hk
     have t : w.cell? (ad.add (j * 1 + 0)) = some (Value.int .i64 l0[j]) := hcells 0 (Value.int .i64 l0[j]) (by rw [hk']; rfl)
     rw [Nat.mul_one, Nat.add_zero] at t
     rw [List.getD_eq_getElem?_getD, List.getElem?_eq_getElem hj]
     exact t
    obtain ⟨b, off, spot⟩ := ad
    have hspot : spot = none := by
     have h1 : w.cell? ⟨b, off, spot⟩ = some (.int .i64 (l0.getD 0 0)) := hcc 0 hp
     cases spot with
     | none => rfl
     | some s =>
      simp only [World.cell?] at h1
      split at h1
      ·
       simp at h1
      ·
       cases h1
    subst hspot
    have hc3 : ∀ j, j < l0.length → w.cell? ⟨b, off + j, none⟩ = some (.int .i64 (l0.getD j 0)) := by
     intro j hj
     have := hcc j hj
     rw [Addr.add_lit] at this
     exact this
    refine (Any.slices_Clone_int slices_Clone_int_int.lays b off l0.length c0 l0 w (Nat.le_refl _) hb hc3).mono ?_
    rintro e w' ⟨v', rfl, ho, _, hb'⟩
    refine ⟨v', rfl, slices_Clone_int_int.row ?_, hb'⟩
    have : l0.take l0.length = l0 := List.take_length
    rw [this] at ho
    exact ho
   ·
    have h0 : l0 = [] := List.eq_nil_of_length_eq_zero (by omega)
    subst h0
    refine (Any.slices_Clone_int_zero slices_Clone_int_int.lays ad c0 w).mono ?_
    rintro e w' ⟨v', rfl, ho, _, hb'⟩
    exact ⟨v', rfl, slices_Clone_int_int.row ho, hb'⟩
 ·
  rw [if_neg hb] at h
  cases h
theorem slices_Clone_int_int.ac (l0 : List Int) (r : List Int) (h : slices_Clone_int_int.f l0 = some r) : ACalls Tryd.prog 34 [.row 1 l0.length false (ints .i64 l0)] [] (fun v H' => v = .own 0 r.length ∧ H' = [.sl 3 1 r.length false (ints .i64 r)]) := by
 unfold slices_Clone_int_int.f at h
 by_cases hb : l0.length * 8 ≤ 140737488355328
 ·
  rw [if_pos hb] at h
  injection h with h
  subst h
  intro R F A w vs hi hvs
  match vs, hvs with
  | [], hvs => simp [VRs] at hvs
  | [c], hvs =>
   simp only [VRs, and_true] at hvs
   rcases VR.ints_cells hvs with ⟨rfl, h0⟩ | ⟨a, cap, rfl, hc, hcell⟩
   ·
    subst h0
    refine (Any.slices_Clone_int_nil slices_Clone_int_int.lays 0 0 w).mono ?_
    rintro e w' ⟨rfl, rfl⟩
    exact CallPost.fresh (vs := []) hi rfl (World.ownsRow_nil _ _ _ _) (Below.refl _ _) (fun _ _ _ _ => by simp [VRs, ints])
   ·
    by_cases hp : 0 < l0.length
    ·
     obtain ⟨b, off, rfl, _, hcc⟩ := hcell hp
     refine (Any.slices_Clone_int slices_Clone_int_int.lays b off l0.length cap l0 w (Nat.le_refl _) hb hcc).mono ?_
     rintro e w' ⟨v', rfl, ho, _, hb'⟩
     have ht : l0.take l0.length = l0 := List.take_length
     rw [ht] at ho
     exact CallPost.fresh hi rfl ho hb' (fun _ _ _ _ => VRs_ints .i64 l0)
    ·
     have h0 : l0 = [] := List.eq_nil_of_length_eq_zero (by omega)
     subst h0
     refine (Any.slices_Clone_int_zero slices_Clone_int_int.lays a cap w).mono ?_
     rintro e w' ⟨v', rfl, ho, _, hb'⟩
     exact CallPost.fresh hi rfl ho hb' (fun _ _ _ _ => by simp [VRs, ints])
  | _ :: _ :: _, hvs => simp [VRs] at hvs
 ·
  rw [if_neg hb] at h
  cases h

/-! ### impl_Order_better: function 50 -/
def impl_Order_better.f (a0_0 : Int) (l0_1 : List Int) (a1 : Int) (a2 : Int) : Option (Bool) := if 0 ≤ a1 then (if a1 < (l0_1.length : Int) then (if 0 ≤ a2 then (some ((Go.bits .and .i64 (shr .i64 (rd l0_1 a1) a2) 1) == 1)) else (none)) else (none)) else (none)
set_option maxRecDepth 100000 in
set_option maxHeartbeats 20000000 in
theorem impl_Order_better.ac (a0_0 : Int) (l0_1 : List Int) (a1 : Int) (a2 : Int) (r : Bool) (h : impl_Order_better.f a0_0 l0_1 a1 a2 = some r) :
  ACalls Tryd.prog 50 [.agg [.lit (.int .i64 a0_0), .row 1 l0_1.length false (ints .i64 l0_1)], .lit (.int .i64 a1), .lit (.int .i64 a2)] [] (fun v H' => v = .lit (.bool r) ∧ H' = []) := by
 refine ACalls.ofP [6] Tryd.func50 rfl (by exact Nat.le_of_ble_eq_true rfl) rfl (by decide) ?_
 simp only [Tryd.ntmps50, env0, impl_Order_better.f] at h ⊢
 repeat (first | (rw [iN] at h; obtain ⟨_, h⟩ := h) | (rw [iP] at h; obtain ⟨_, h⟩ := h) | (simp only [bS] at h))
 refine AWp.seq ?_
 refine AWp.region ?_
 refine L.M M.bx ?_
 refine L.Y Y.asg ?_
 refine AList.nil ?_
 refine AWp.seq ?_
 refine AWp.region ?_
 refine L.Y (Y.fa (off := 1) Tryd.underlying26 Y22) ?_
 refine L.S (S.ld Tryd.underlying22) ?_
 refine L.Y Y.mv ?_
 refine L.Y (Y.ixr Tryd.underlying22 Y3) ?_
 refine L.S (S.ld Tryd.underlying3) ?_
 refine L.Y Y.mv ?_
 refine L.Y Y.bin ?_
 refine L.Y Y.bin ?_
 refine L.Y Y.bin ?_
 refine L.Y Y.asg ?_
 refine AList.nil ?_
 obtain rfl := Option.some.inj h
 refine AWp.ret ?_
 exact ⟨.inr rfl, [(6, _)], _, ⟨rfl, rfl⟩, IsPart.at [] [] base0 .nil (E.c .nil)⟩

-- NOT PRINTED: function 62 (bits_TrailingZeros32)

/-! ### bits_TrailingZeros64: function 63 -/
def bits_TrailingZeros64.f (a0 : Int) : Option (Int) := if 0 ≤ a0 ∧ a0 < 18446744073709551616 then some ((Lib.ctz 64 a0.toNat : Nat) : Int) else none
def bits_TrailingZeros64.ren : Go.Shelf.Ren := ⟨fun | 29 => 63 | n => n, fun | 22 => 58 | 3 => 3 | 4 => 4 | 25 => 51 | 54 => 63 | 0 => 0 | 5 => 5 | n => n, fun | 1 => 1 | n => n⟩
theorem bits_TrailingZeros64.lays : Go.Proofs.Lays7.n29 Tryd.prog bits_TrailingZeros64.ren where
 mixed := by kernel_rfl
 f29 := Tryd.func63.trans (congrArg some (by kernel_rfl))
 t0 := Tryd.underlying0
 a0 := Tryd.isAgg0
 z0 := Tryd.sizeOf0
 v0 := Tryd.zeroValue0
 i0 := by kernel_rfl
 t3 := Tryd.underlying3
 a3 := Tryd.isAgg3
 z3 := Tryd.sizeOf3
 v3 := Tryd.zeroValue3
 i3 := by kernel_rfl
 t4 := Tryd.underlying4
 a4 := Tryd.isAgg4
 z4 := Tryd.sizeOf4
 v4 := Tryd.zeroValue4
 i4 := by kernel_rfl
 t5 := Tryd.underlying5
 a5 := Tryd.isAgg5
 z5 := Tryd.sizeOf5
 v5 := Tryd.zeroValue5
 i5 := by kernel_rfl
 t22 := Tryd.underlying58
 a22 := Tryd.isAgg58
 z22 := Tryd.sizeOf58
 v22 := Tryd.zeroValue58
 i22 := by kernel_rfl
 t25 := Tryd.underlying51
 a25 := Tryd.isAgg51
 z25 := Tryd.sizeOf51
 v25 := Tryd.zeroValue51
 i25 := by kernel_rfl
 t54 := Tryd.underlying63
 a54 := Tryd.isAgg63
 z54 := Tryd.sizeOf63
 g1 := by kernel_rfl
theorem bits_TrailingZeros64.calls (a0 : Int) (r : Int) (w : World) (hT : TabIn w) (h : bits_TrailingZeros64.f a0 = some r) :
  Calls Tryd.prog 63 #[.int .u64 a0] w fun e w' => e = .returned (.int .i64 r) ∧ Drawn0 w w' := by
 unfold bits_TrailingZeros64.f at h
 by_cases hb : 0 ≤ a0 ∧ a0 < 18446744073709551616
 ·
  rw [if_pos hb] at h
  injection h with h
  subst h
  obtain ⟨n, rfl⟩ := Int.eq_ofNat_of_zero_le hb.1
  refine (Any7.bits_TrailingZeros64 bits_TrailingZeros64.lays n (by omega) w (fun _ => hT)).mono ?_
  rintro e w' ⟨rfl, rfl⟩
  exact ⟨by simp, Drawn0.refl _⟩
 ·
  rw [if_neg hb] at h
  cases h
theorem bits_TrailingZeros64.ac (a0 : Int) (r : Int) (h : bits_TrailingZeros64.f a0 = some r) : ACalls Tryd.prog 63 [.lit (.int .u64 a0)] [] (fun v H' => v = .lit (.int .i64 r) ∧ H' = []) := by
 unfold bits_TrailingZeros64.f at h
 by_cases hb : 0 ≤ a0 ∧ a0 < 18446744073709551616
 ·
  rw [if_pos hb] at h
  injection h with h
  subst h
  obtain ⟨n, rfl⟩ := Int.eq_ofNat_of_zero_le hb.1
  refine ACalls.same (vs := [.int .u64 (n : Int)]) fun R w ht => ?_
  refine (Any7.bits_TrailingZeros64 bits_TrailingZeros64.lays n (by omega) w (fun _ => tabIn_of ht)).mono ?_
  rintro e w' ⟨rfl, rfl⟩
  exact ⟨by simp, rfl⟩
 ·
  rw [if_neg hb] at h
  cases h

/-! ### bits_TrailingZeros: function 58 -/
def bits_TrailingZeros.f (a0 : Int) : Option (Int) := (bits_TrailingZeros64.f a0).bind fun t269 => (some t269)
set_option maxRecDepth 100000 in
set_option maxHeartbeats 20000000 in
theorem bits_TrailingZeros.ac (a0 : Int) (r : Int) (h : bits_TrailingZeros.f a0 = some r) :
  ACalls Tryd.prog 58 [.lit (.int .u64 a0)] [] (fun v H' => v = .lit (.int .i64 r) ∧ H' = []) := by
 refine ACalls.ofP [2] Tryd.func58 rfl (by exact Nat.le_of_ble_eq_true rfl) rfl (by decide) ?_
 simp only [Tryd.ntmps58, env0, bits_TrailingZeros.f] at h ⊢
 refine AWp.seq ?_
 refine AWp.region ?_
 refine L.Y Y.asg ?_
 refine AList.nil ?_
 refine AWp.seq ?_
 refine W.cond (fun hb => ?_) (fun hb => ?_)
 ·
  first | exact Bool.false_ne_true ((Eq.symm (by assumption)).trans hb) | exact Bool.false_ne_true (hb.symm.trans (by assumption)) | exact DD hb
 refine AWp.skip ?_
 refine AWp.seq ?_
 refine AWp.region ?_
 refine L.Y Y.mv ?_
 replace h := Option.bind_eq_some_iff.1 h
 obtain ⟨t269, hc2, h⟩ := h
 refine L.C (C.callE (l := true) [] Tryd.func63 (bits_TrailingZeros64.ac _ _ hc2) .nil ?_)
 refine L.Y Y.asg ?_
 refine AList.nil ?_
 obtain rfl := Option.some.inj h
 refine AWp.ret ?_
 exact ⟨.inr rfl, [(2, _)], _, ⟨rfl, rfl⟩, IsPart.at [] [] base0 .nil (E.c .nil)⟩

/-! ### impl_members: function 51 -/
def impl_members.l0 : Nat → Int → List Int → Option (List Int)
 | 0, _, _ => none
 | k + 1, x0, x3 => if x0 = 0 then (some x3) else ((bits_TrailingZeros.f (IntKind.u64.wrap (x0))).bind fun t273 => (if x3.length < 17592186044416 then (impl_members.l0 k (Go.bits .and .i64 x0 (wrap64 (x0 - 1))) (x3 ++ [t273])) else (none)))
def impl_members.f (k : Nat) (a0 : Int) : Option (List Int) := impl_members.l0 k a0 (([] : List Int))
theorem impl_members.mono_l : ∀ k, (∀ y0 y1, LeO (impl_members.l0 k y0 y1) (impl_members.l0 (k + 1) y0 y1))
 | 0 => fun _ _ r h => by simp [impl_members.l0] at h
 | k + 1 => by
  have ih0 := impl_members.mono_l k
  ·
   intro y0 y1
   unfold impl_members.l0
   repeat' first
   | (with_reducible exact ih0 _ _)
   | (with_reducible exact LeO.refl _)
   | (with_reducible exact LeO.none _)
   | (with_reducible refine LeO.ite ?_ ?_)
   | (with_reducible refine LeO.bind ?_ (fun _ => ?_))
   | exact ih0 _ _
   | exact LeO.none _
   | refine LeO.ite ?_ ?_
   | refine LeO.bind ?_ (fun _ => ?_)
theorem impl_members.mono : ∀ a0 k, LeO (impl_members.f k a0) (impl_members.f (k + 1) a0) := by
 intro a0 k
 have ih0 := impl_members.mono_l k
 unfold impl_members.f
 repeat' first
   | (with_reducible exact ih0 _ _)
   | (with_reducible exact LeO.refl _)
   | (with_reducible exact LeO.none _)
   | (with_reducible refine LeO.ite ?_ ?_)
   | (with_reducible refine LeO.bind ?_ (fun _ => ?_))
   | exact ih0 _ _
   | exact LeO.none _
   | refine LeO.ite ?_ ?_
   | refine LeO.bind ?_ (fun _ => ?_)
set_option maxRecDepth 100000 in
set_option maxHeartbeats 20000000 in
theorem impl_members.ac (k : Nat) (a0 : Int) (r : List Int) (h : impl_members.f k a0 = some r) :
  ACalls Tryd.prog 51 [.lit (.int .i64 a0)] [] (fun v H' => v = .own 0 r.length ∧ H' = [.sl 3 1 r.length false (ints .i64 r)]) := by
 refine ACalls.ofP [2] Tryd.func51 rfl (by exact Nat.le_of_ble_eq_true rfl) rfl (by decide) ?_
 simp only [Tryd.ntmps51, env0, impl_members.f] at h ⊢
 repeat (first | (rw [iN] at h; obtain ⟨_, h⟩ := h) | (rw [iP] at h; obtain ⟨_, h⟩ := h) | (simp only [bS] at h))
 refine AWp.seq ?_
 refine AWp.region ?_
 refine L.Y Y.asg ?_
 refine AList.nil ?_
 refine AWp.seq ?_
 refine AWp.region ?_
 refine L.M (M.bs Tryd.underlying22 Y3) ?_
 refine L.Y Y.asg ?_
 refine AList.nil ?_
 refine AWp.seq ?_
 refine AWp.block ?_
 refine AWp.loopI (fun kk e H => kk ≤ k ∧ ∃ (x0 : Int) (x3 : List Int), e = [(0, .lit (.int .i64 x0)), (2, .lit (.slice none 0 0)), (3, .own 0 x3.length)] ∧ H = [.sl 3 1 x3.length true (ints .i64 x3)] ∧ impl_members.l0 kk x0 x3 = some r) (k := k)
  ⟨_, _, ⟨Nat.le_refl _, _, _, rfl, rfl, h⟩, IsPart.at [] [0] base0 (H.c .nil) (E.c (E.c (E.c .nil)))⟩ ?_
 clear h
 rintro k1 e H ⟨hk2, x0, x3, rfl, rfl, h⟩
 cases k1 with
 | zero => exact absurd h (by simp [impl_members.l0])
 | succ k1 =>
 simp only [impl_members.l0] at h
 refine AWp.seq ?_
 refine AWp.seq ?_
 refine AWp.region ?_
 refine L.Y Y.mv ?_
 refine L.Y Y.bin ?_
 refine AList.nil ?_
 refine W.cond (fun hb => ?_) (fun hb => ?_)
 ·
  have hb3 := hb
  try simp only [hS, hE, ne_eq] at hb
  first | rw [if_pos hb3] at h | rw [if_neg (Bool.eq_false_iff.1 hb3)] at h | rw [if_pos hb] at h | rw [if_neg hb] at h | (simp only [hb, hT, reduceIte] at h) | skip
  refine AWp.skip ?_
  refine AWp.seq ?_
  refine AWp.block ?_
  refine AWp.region ?_
  refine L.Y Y.mv ?_
  refine L.Y Y.mv ?_
  refine L.Y (Y.cv Tryd.underlying3 Tryd.underlying51) ?_
  replace h := Option.bind_eq_some_iff.1 h
  obtain ⟨t273, hc4, h⟩ := h
  repeat (first | (rw [iN] at h; obtain ⟨_, h⟩ := h) | (rw [iP] at h; obtain ⟨_, h⟩ := h) | (simp only [bS] at h))
  refine L.C (C.callE (l := true) [] Tryd.func58 (bits_TrailingZeros.ac _ _ hc4) .nil ?_)
  refine L.M (M.bs Tryd.underlying22 Y3) ?_
  refine L.S (S.ap (nn' := true) Tryd.underlying22 Y3) ?_
  refine L.Y Y.asg ?_
  refine AList.nil ?_
  refine W.kp [0, 2, 3, 6] ?_
  refine AWp.region ?_
  refine L.Y Y.mv ?_
  refine L.Y Y.mv ?_
  refine L.Y Y.bin ?_
  refine L.Y Y.bin ?_
  refine L.Y Y.asg ?_
  refine AList.nil ?_
  exact ⟨k1, by omega, _, _, ⟨by omega, _, _, rfl, rfl, h⟩, IsPart.at [] [0] base0 (H.c .nil) (E.c (E.c (E.c .nil)))⟩
 ·
  have hb3 := hb
  try simp only [hS, hE, ne_eq] at hb
  first | rw [if_pos hb3] at h | rw [if_neg (Bool.eq_false_iff.1 hb3)] at h | rw [if_pos hb] at h | rw [if_neg hb] at h | (simp only [hb, hT, reduceIte] at h) | skip
  refine AWp.exit ?_
  refine AWp.seq ?_
  refine AWp.region ?_
  refine L.Y Y.mv ?_
  refine L.Y Y.asg ?_
  refine AList.nil ?_
  obtain rfl := Option.some.inj h
  refine AWp.ret ?_
  exact ⟨.inr rfl, [(2, _)], _, ⟨rfl, rfl⟩, IsPart.at [] [0] base0 (H.c .nil) (E.c .nil)⟩

end Go.Proofs.YtdaneldckdjjoaaDoor.PFnExactNearestOf
