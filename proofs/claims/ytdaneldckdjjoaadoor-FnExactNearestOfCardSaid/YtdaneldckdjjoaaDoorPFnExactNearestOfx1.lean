-- Written by a program of this session's (wip/myprint2): the functions by the kit's print, the walks by awgen.py. Lean checks it.
import Derived.Test.YtdaneldckdjjoaaDoorPFnExactNearestOfx0
namespace Go.Proofs.YtdaneldckdjjoaaDoor.PFnExactNearestOf
open Go.RowKit Go.Proofs.YtdaneldckdjjoaaDoorW.PrintWords Go.Proofs.YtdaneldckdjjoaaDoorW.PrintLast Go.Proofs.YtdaneldckdjjoaaDoorW.PrintMore Go.Proofs.YtdaneldckdjjoaaDoorM Go.Proofs.YtdaneldckdjjoaaDoorA Go.Proofs.YtdaneldckdjjoaaDoorT
attribute [local go_sem] max2_int min2_int max_two min_two max_three min_three max_four min_four   -- for this text's walks alone
set_option linter.unusedVariables false
set_option linter.unusedSimpArgs false

/-! ### laws_szIntS: function 11 -/
def laws_szIntS.f (l0 : List Int) (a1 : Int) : Option (Int) := if (wrap64 (a1 - (l0.length : Int))) < 0 then (some (-1)) else (some (wrap64 (a1 - (l0.length : Int))))
set_option maxRecDepth 100000 in
set_option maxHeartbeats 20000000 in
theorem laws_szIntS.ac (l0 : List Int) (a1 : Int) (r : Int) (h : laws_szIntS.f l0 a1 = some r) :
  ACalls Tryd.prog 11 [.row 1 l0.length false (ints .i64 l0), .lit (.int .i64 a1)] [] (fun v H' => v = .lit (.int .i64 r) ∧ H' = []) := by
 refine ACalls.ofP [4] Tryd.func11 rfl (by exact Nat.le_of_ble_eq_true rfl) rfl (by decide) ?_
 simp only [Tryd.ntmps11, env0, laws_szIntS.f] at h ⊢
 refine AWp.seq ?_
 refine AWp.region ?_
 refine L.Y Y.asg ?_
 refine AList.nil ?_
 refine AWp.seq ?_
 refine AWp.region ?_
 refine L.Y Y.mv ?_
 refine L.Y Y.mv ?_
 refine L.Y (Y.ln Tryd.underlying22) ?_
 refine L.Y Y.bin ?_
 refine L.Y Y.asg ?_
 refine AList.nil ?_
 refine AWp.seq ?_
 refine AWp.seq ?_
 refine W.kp [0, 1, 4] ?_
 refine AWp.region ?_
 refine L.Y Y.mv ?_
 refine L.Y Y.bin ?_
 refine AList.nil ?_
 refine W.cond (fun hb => ?_) (fun hb => ?_)
 ·
  have hb1 := hb
  try simp only [hS, hE, ne_eq] at hb
  first | rw [if_pos hb1] at h | rw [if_neg (Bool.eq_false_iff.1 hb1)] at h | rw [if_pos hb] at h | rw [if_neg hb] at h | (simp only [hb, hT, reduceIte] at h) | skip
  refine AWp.seq ?_
  refine AWp.region ?_
  refine L.Y Y.asg ?_
  refine AList.nil ?_
  obtain rfl := Option.some.inj h
  refine AWp.ret ?_
  exact ⟨.inr rfl, [(4, _)], _, ⟨rfl, rfl⟩, IsPart.at [] [] base0 .nil (E.c .nil)⟩
 ·
  have hb1 := hb
  try simp only [hS, hE, ne_eq] at hb
  first | rw [if_pos hb1] at h | rw [if_neg (Bool.eq_false_iff.1 hb1)] at h | rw [if_pos hb] at h | rw [if_neg hb] at h | (simp only [hb, hT, reduceIte] at h) | skip
  refine AWp.skip ?_
  refine AWp.seq ?_
  refine AWp.region ?_
  refine L.Y Y.mv ?_
  refine L.Y Y.asg ?_
  refine AList.nil ?_
  obtain rfl := Option.some.inj h
  refine AWp.ret ?_
  exact ⟨.inr rfl, [(4, _)], _, ⟨rfl, rfl⟩, IsPart.at [] [] base0 .nil (E.c .nil)⟩

/-! ### laws_szOrder: function 4 -/
def laws_szOrder.f (a0_0 : Int) (l0_1 : List Int) (a1 : Int) : Option (Int) := (laws_szIntS.f l0_1 a1).bind fun t102 => (if t102 < 0 then (some (-1)) else (some t102))
set_option maxRecDepth 100000 in
set_option maxHeartbeats 20000000 in
theorem laws_szOrder.ac (a0_0 : Int) (l0_1 : List Int) (a1 : Int) (r : Int) (h : laws_szOrder.f a0_0 l0_1 a1 = some r) :
  ACalls Tryd.prog 4 [.agg [.lit (.int .i64 a0_0), .row 1 l0_1.length false (ints .i64 l0_1)], .lit (.int .i64 a1)] [] (fun v H' => v = .lit (.int .i64 r) ∧ H' = []) := by
 refine ACalls.ofP [4] Tryd.func4 rfl (by exact Nat.le_of_ble_eq_true rfl) rfl (by decide) ?_
 simp only [Tryd.ntmps4, env0, laws_szOrder.f] at h ⊢
 refine AWp.seq ?_
 refine AWp.region ?_
 refine L.M M.bx ?_
 refine L.Y Y.asg ?_
 refine AList.nil ?_
 refine AWp.seq ?_
 refine AWp.region ?_
 refine L.Y (Y.fa (off := 1) Tryd.underlying24 Y22) ?_
 refine L.S (S.ld Tryd.underlying22) ?_
 refine L.Y Y.mv ?_
 replace h := Option.bind_eq_some_iff.1 h
 obtain ⟨t102, hc1, h⟩ := h
 refine L.C (C.callE (l := true) [] Tryd.func11 (laws_szIntS.ac _ _ _ hc1) .nil ?_)
 refine L.Y Y.asg ?_
 refine AList.nil ?_
 refine AWp.seq ?_
 refine AWp.seq ?_
 refine W.kp [0, 1, 2, 4] ?_
 refine AWp.region ?_
 refine L.Y Y.mv ?_
 refine L.Y Y.bin ?_
 refine AList.nil ?_
 refine W.cond (fun hb => ?_) (fun hb => ?_)
 ·
  have hb2 := hb
  try simp only [hS, hE, ne_eq] at hb
  first | rw [if_pos hb2] at h | rw [if_neg (Bool.eq_false_iff.1 hb2)] at h | rw [if_pos hb] at h | rw [if_neg hb] at h | (simp only [hb, hT, reduceIte] at h) | skip
  refine AWp.seq ?_
  refine AWp.region ?_
  refine L.Y Y.asg ?_
  refine AList.nil ?_
  obtain rfl := Option.some.inj h
  refine AWp.ret ?_
  exact ⟨.inr rfl, [(4, _)], _, ⟨rfl, rfl⟩, IsPart.at [] [] base0 .nil (E.c .nil)⟩
 ·
  have hb2 := hb
  try simp only [hS, hE, ne_eq] at hb
  first | rw [if_pos hb2] at h | rw [if_neg (Bool.eq_false_iff.1 hb2)] at h | rw [if_pos hb] at h | rw [if_neg hb] at h | (simp only [hb, hT, reduceIte] at h) | skip
  refine AWp.skip ?_
  refine AWp.seq ?_
  refine AWp.region ?_
  refine L.Y Y.mv ?_
  refine L.Y Y.asg ?_
  refine AList.nil ?_
  obtain rfl := Option.some.inj h
  refine AWp.ret ?_
  exact ⟨.inr rfl, [(4, _)], _, ⟨rfl, rfl⟩, IsPart.at [] [] base0 .nil (E.c .nil)⟩

/-! ### spec_l1In: function 25 -/
def spec_l1In.f (a0 : Int) (a1 : Int) (a2 : Int) : Option (Bool) := if a0 ≥ a1 then (some (decide (a0 ≤ a2))) else (some false)
set_option maxRecDepth 100000 in
set_option maxHeartbeats 20000000 in
theorem spec_l1In.ac (a0 : Int) (a1 : Int) (a2 : Int) (r : Bool) (h : spec_l1In.f a0 a1 a2 = some r) :
  ACalls Tryd.prog 25 [.lit (.int .i64 a0), .lit (.int .i64 a1), .lit (.int .i64 a2)] [] (fun v H' => v = .lit (.bool r) ∧ H' = []) := by
 refine ACalls.ofP [6] Tryd.func25 rfl (by exact Nat.le_of_ble_eq_true rfl) rfl (by decide) ?_
 simp only [Tryd.ntmps25, env0, spec_l1In.f] at h ⊢
 refine AWp.seq ?_
 refine AWp.region ?_
 refine L.Y Y.asg ?_
 refine AList.nil ?_
 refine AWp.seq ?_
 refine AWp.region ?_
 refine L.Y Y.mv ?_
 refine L.Y Y.mv ?_
 refine L.Y Y.bin ?_
 refine L.Y Y.mv ?_
 refine L.Gc (fun hb => ?_) (fun hb => ?_)
 ·
  have hb1 := hb
  try simp only [hS, hE, ne_eq] at hb
  first | rw [if_pos hb1] at h | rw [if_neg (Bool.eq_false_iff.1 hb1)] at h | rw [if_pos hb] at h | rw [if_neg hb] at h | (simp only [hb, hT, reduceIte] at h) | skip
  refine L.Gy hb1 Y.mv ?_
  refine L.Gy hb1 Y.mv ?_
  refine L.Gy hb1 Y.bin ?_
  refine L.Y (Y.pk (c := true) hb1) ?_
  refine L.Y Y.asg ?_
  refine AList.nil ?_
  obtain rfl := Option.some.inj h
  refine AWp.ret ?_
  exact ⟨.inr rfl, [(6, _)], _, ⟨rfl, rfl⟩, IsPart.at [] [] base0 .nil (E.c .nil)⟩
 ·
  have hb1 := hb
  try simp only [hS, hE, ne_eq] at hb
  first | rw [if_pos hb1] at h | rw [if_neg (Bool.eq_false_iff.1 hb1)] at h | rw [if_pos hb] at h | rw [if_neg hb] at h | (simp only [hb, hT, reduceIte] at h) | skip
  refine L.Gn hb1 ?_
  refine L.Gn hb1 ?_
  refine L.Gn hb1 ?_
  refine L.Y (Y.pk (c := false) hb1) ?_
  refine L.Y Y.asg ?_
  refine AList.nil ?_
  obtain rfl := Option.some.inj h
  refine AWp.ret ?_
  exact ⟨.inr rfl, [(6, _)], _, ⟨rfl, rfl⟩, IsPart.at [] [] base0 .nil (E.c .nil)⟩

/-! ### spec_l1All: function 26 -/
def spec_l1All.l0 : Nat → Int → Int → List Int → Int → Int → Option (Bool)
 | 0, _, _, _, _, _ => none
 | k + 1, x1, x2, x9, x10, x11 => if x11 < x10 then (if 0 ≤ x11 then (if x11 < (x9.length : Int) then ((spec_l1In.f (rd x9 x11) x1 x2).bind fun t104 => (if t104 = true then (spec_l1All.l0 k x1 x2 x9 x10 (wrap64 (x11 + 1))) else (some false))) else (none)) else (none)) else (some true)
def spec_l1All.f (k : Nat) (l0 : List Int) (a1 : Int) (a2 : Int) : Option (Bool) := spec_l1All.l0 k a1 a2 l0 (l0.length : Int) 0
set_option maxRecDepth 100000 in
set_option maxHeartbeats 20000000 in
theorem spec_l1All.ac (k : Nat) (l0 : List Int) (a1 : Int) (a2 : Int) (r : Bool) (h : spec_l1All.f k l0 a1 a2 = some r) :
  ACalls Tryd.prog 26 [.row 1 l0.length false (ints .i64 l0), .lit (.int .i64 a1), .lit (.int .i64 a2)] [] (fun v H' => v = .lit (.bool r) ∧ H' = []) := by
 refine ACalls.ofP [6] Tryd.func26 rfl (by exact Nat.le_of_ble_eq_true rfl) rfl (by decide) ?_
 simp only [Tryd.ntmps26, env0, spec_l1All.f] at h ⊢
 refine AWp.seq ?_
 refine AWp.region ?_
 refine L.Y Y.asg ?_
 refine AList.nil ?_
 refine AWp.seq ?_
 refine AWp.seq ?_
 refine AWp.region ?_
 refine L.Y Y.mv ?_
 refine L.Y (Y.ln Tryd.underlying22) ?_
 refine L.Y Y.mv ?_
 refine AList.nil ?_
 refine AWp.block ?_
 refine AWp.loopI (fun kk e H => kk ≤ k ∧ ∃ (x1 : Int) (x2 : Int) (x10 : Int) (x11 : Int), e = [(1, .lit (.int .i64 x1)), (2, .lit (.int .i64 x2)), (9, .row 1 l0.length false (ints .i64 l0)), (10, .lit (.int .i64 x10)), (11, .lit (.int .i64 x11))] ∧ H = [] ∧ spec_l1All.l0 kk x1 x2 l0 x10 x11 = some r) (k := k)
  ⟨_, _, ⟨Nat.le_refl _, _, _, _, _, rfl, rfl, h⟩, IsPart.at [] [] base0 .nil (E.c (E.c (E.c (E.c (E.c .nil)))))⟩ ?_
 clear h
 rintro k1 e H ⟨hk2, x1, x2, x10, x11, rfl, rfl, h⟩
 cases k1 with
 | zero => exact absurd h (by simp [spec_l1All.l0])
 | succ k1 =>
 simp only [spec_l1All.l0] at h
 refine AWp.seq ?_
 refine AWp.region ?_
 refine L.Y Y.bin ?_
 refine AList.nil ?_
 refine AWp.seq ?_
 refine W.cond (fun hb => ?_) (fun hb => ?_)
 ·
  have hb3 := hb
  try simp only [hS, hE, ne_eq] at hb
  first | rw [if_pos hb3] at h | rw [if_neg (Bool.eq_false_iff.1 hb3)] at h | rw [if_pos hb] at h | rw [if_neg hb] at h | (simp only [hb, hT, reduceIte] at h) | skip
  repeat (first | (rw [iN] at h; obtain ⟨_, h⟩ := h) | (rw [iP] at h; obtain ⟨_, h⟩ := h) | (simp only [bS] at h))
  refine AWp.skip ?_
  refine AWp.seq ?_
  refine AWp.block ?_
  refine AWp.seq ?_
  refine AWp.region ?_
  refine L.Y (Y.ixr Tryd.underlying22 Y3) ?_
  refine L.S (S.ld Tryd.underlying3) ?_
  refine L.Y Y.asg ?_
  refine AList.nil ?_
  refine AWp.seq ?_
  refine AWp.region ?_
  refine L.Y Y.mv ?_
  refine L.Y Y.mv ?_
  refine L.Y Y.mv ?_
  replace h := Option.bind_eq_some_iff.1 h
  obtain ⟨t104, hc4, h⟩ := h
  refine L.C (C.callE (l := true) [] Tryd.func25 (spec_l1In.ac _ _ _ _ hc4) .nil ?_)
  refine L.Y Y.nt ?_
  refine AList.nil ?_
  refine W.cond (fun hb => ?_) (fun hb => ?_)
  ·
   have hb5 := hb
   try simp only [hS, hE, ne_eq] at hb
   first | rw [if_pos hb5] at h | rw [if_neg (Bool.eq_false_iff.1 hb5)] at h | rw [if_pos hb] at h | rw [if_neg hb] at h | (simp only [hb, hT, reduceIte] at h) | skip
   refine AWp.seq ?_
   refine W.kp [1, 2, 8, 9, 10, 11, 12, 19] ?_
   refine AWp.region ?_
   refine L.Y Y.asg ?_
   refine AList.nil ?_
   obtain rfl := Option.some.inj h
   refine AWp.ret ?_
   exact ⟨.inr rfl, [(6, _)], _, ⟨rfl, rfl⟩, IsPart.at [] [] base0 .nil (E.c .nil)⟩
  ·
   have hb5 := hb
   try simp only [hS, hE, ne_eq] at hb
   first | rw [if_pos hb5] at h | rw [if_neg (Bool.eq_false_iff.1 hb5)] at h | rw [if_pos hb] at h | rw [if_neg hb] at h | (simp only [hb, hT, reduceIte] at h) | skip
   refine AWp.skip ?_
   refine W.kp [1, 2, 8, 9, 10, 11, 12, 19] ?_
   refine AWp.region ?_
   refine L.Y Y.bin ?_
   refine L.Y Y.mv ?_
   refine AList.nil ?_
   exact ⟨k1, by omega, _, _, ⟨by omega, _, _, _, _, rfl, rfl, h⟩, IsPart.at [] [] base0 .nil (E.c (E.c (E.c (E.c (E.c .nil)))))⟩
 ·
  have hb3 := hb
  try simp only [hS, hE, ne_eq] at hb
  first | rw [if_pos hb3] at h | rw [if_neg (Bool.eq_false_iff.1 hb3)] at h | rw [if_pos hb] at h | rw [if_neg hb] at h | (simp only [hb, hT, reduceIte] at h) | skip
  refine AWp.exit ?_
  refine AWp.seq ?_
  refine AWp.region ?_
  refine L.Y Y.asg ?_
  refine AList.nil ?_
  obtain rfl := Option.some.inj h
  refine AWp.ret ?_
  exact ⟨.inr rfl, [(6, _)], _, ⟨rfl, rfl⟩, IsPart.at [] [] base0 .nil (E.c .nil)⟩

/-! ### spec_orRelation: function 12 -/
def spec_orRelation.f (k : Nat) (a0_0 : Int) (l0_1 : List Int) : Option (Bool) := (spec_l1In.f a0_0 0 10).bind fun t106 => (if t106 = true then (if (l0_1.length : Int) = a0_0 then (if 0 ≤ a0_0 then ((spec_l1All.f k l0_1 0 (wrap64 ((shl .i64 1 a0_0) - 1))).bind fun t107 => (some t107)) else (none)) else (some false)) else (some false))
set_option maxRecDepth 100000 in
set_option maxHeartbeats 20000000 in
theorem spec_orRelation.ac (k : Nat) (a0_0 : Int) (l0_1 : List Int) (r : Bool) (h : spec_orRelation.f k a0_0 l0_1 = some r) :
  ACalls Tryd.prog 12 [.agg [.lit (.int .i64 a0_0), .row 1 l0_1.length false (ints .i64 l0_1)]] [] (fun v H' => v = .lit (.bool r) ∧ H' = []) := by
 refine ACalls.ofP [2] Tryd.func12 rfl (by exact Nat.le_of_ble_eq_true rfl) rfl (by decide) ?_
 simp only [Tryd.ntmps12, env0, spec_orRelation.f] at h ⊢
 refine AWp.seq ?_
 refine AWp.region ?_
 refine L.M M.bx ?_
 refine L.Y Y.asg ?_
 refine AList.nil ?_
 refine AWp.seq ?_
 refine Dt.reg [] [] (.y 0 (.t 1 (.one 2 (.y 3 (.y 4 (.t 5 (.y 6 (.y 7 (.t 8 (.y 9 (.y 10 (.y 11 (.y 12 (.t 13 (.y 14 (.t 15 (.y 16 (.y 17 (.one 18 (.y 19 (.y 20 .done))))))))))))))))))))) HM ?_
 refine Dt.Y rfl wantN (Y.fa (off := 0) Tryd.underlying26 Y3) ?_
 refine Dt.T rfl wantN (D.ld Tryd.underlying3) ?_
 refine Dt.O (g' := false) rfl wantN ?_
 replace h := Option.bind_eq_some_iff.1 h
 obtain ⟨t106, hc1, h⟩ := h
 refine Ox.C true [] Tryd.func25 (spec_l1In.ac _ _ _ _ hc1) .nil ?_
 refine Dt.Y rfl wantN Y.mv ?_
 refine Dt.F 6 (fun hb => ?_) (fun hb => ?_)
 ·
  have hb2 := hb
  try simp only [hS, hE, ne_eq] at hb
  first | rw [if_pos hb2] at h | rw [if_neg (Bool.eq_false_iff.1 hb2)] at h | rw [if_pos hb] at h | rw [if_neg hb] at h | (simp only [hb, hT, reduceIte] at h) | skip
  refine Dt.Y rfl (wantY hb2) (Y.fa (off := 1) Tryd.underlying26 Y22) ?_
  refine Dt.T rfl (wantY hb2) (D.ld Tryd.underlying22) ?_
  refine Dt.Y rfl (wantY hb2) (Y.ln Tryd.underlying22) ?_
  refine Dt.Y rfl (wantY hb2) (Y.fa (off := 0) Tryd.underlying26 Y3) ?_
  refine Dt.T rfl (wantY hb2) (D.ld Tryd.underlying3) ?_
  refine Dt.Y rfl (wantY hb2) Y.bin ?_
  refine Dt.Y rfl wantN (Y.pk (c := true) hb2) ?_
  refine Dt.Y rfl wantN Y.mv ?_
  refine Dt.F 14 (fun hb => ?_) (fun hb => ?_)
  ·
   have hb3 := hb
   try simp only [hS, hE, ne_eq] at hb
   first | rw [if_pos hb3] at h | rw [if_neg (Bool.eq_false_iff.1 hb3)] at h | rw [if_pos hb] at h | rw [if_neg hb] at h | (simp only [hb, hT, reduceIte] at h) | skip
   repeat (first | (rw [iN] at h; obtain ⟨_, h⟩ := h) | (rw [iP] at h; obtain ⟨_, h⟩ := h) | (simp only [bS] at h))
   refine Dt.Y rfl (wantY hb3) (Y.fa (off := 1) Tryd.underlying26 Y22) ?_
   refine Dt.T rfl (wantY hb3) (D.ld Tryd.underlying22) ?_
   refine Dt.Y rfl (wantY hb3) (Y.fa (off := 0) Tryd.underlying26 Y3) ?_
   refine Dt.T rfl (wantY hb3) (D.ld Tryd.underlying3) ?_
   refine Dt.Y rfl (wantY hb3) Y.bin ?_
   refine Dt.Y rfl (wantY hb3) Y.bin ?_
   refine Dt.O (g' := false) rfl (wantY hb3) ?_
   replace h := Option.bind_eq_some_iff.1 h
   obtain ⟨t107, hc4, h⟩ := h
   refine Ox.C true [] Tryd.func26 (spec_l1All.ac _ _ _ _ _ hc4) .nil ?_
   refine Dt.Y rfl wantN (Y.pk (c := true) hb3) ?_
   refine Dt.Y rfl wantN Y.asg ?_
   refine Dt.nil ?_
   obtain rfl := Option.some.inj h
   refine AWp.ret ?_
   exact ⟨.inr rfl, [(2, _)], _, ⟨rfl, rfl⟩, IsPart.at [] [] base0 .nil (E.c .nil)⟩
  ·
   have hb3 := hb
   try simp only [hS, hE, ne_eq] at hb
   first | rw [if_pos hb3] at h | rw [if_neg (Bool.eq_false_iff.1 hb3)] at h | rw [if_pos hb] at h | rw [if_neg hb] at h | (simp only [hb, hT, reduceIte] at h) | skip
   refine Dt.No rfl (wantZ hb3) ?_
   refine Dt.Nt rfl (wantZ hb3) ?_
   refine Dt.No rfl (wantZ hb3) ?_
   refine Dt.Nt rfl (wantZ hb3) ?_
   refine Dt.No rfl (wantZ hb3) ?_
   refine Dt.No rfl (wantZ hb3) ?_
   refine Dt.Po rfl (wantZ hb3) ?_
   refine Dt.Y rfl wantN (Y.pk (c := false) hb3) ?_
   refine Dt.Y rfl wantN Y.asg ?_
   refine Dt.nil ?_
   obtain rfl := Option.some.inj h
   refine AWp.ret ?_
   exact ⟨.inr rfl, [(2, _)], _, ⟨rfl, rfl⟩, IsPart.at [] [] base0 .nil (E.c .nil)⟩
 ·
  have hb2 := hb
  try simp only [hS, hE, ne_eq] at hb
  first | rw [if_pos hb2] at h | rw [if_neg (Bool.eq_false_iff.1 hb2)] at h | rw [if_pos hb] at h | rw [if_neg hb] at h | (simp only [hb, hT, reduceIte] at h) | skip
  refine Dt.No rfl (wantZ hb2) ?_
  refine Dt.Nt rfl (wantZ hb2) ?_
  refine Dt.No rfl (wantZ hb2) ?_
  refine Dt.No rfl (wantZ hb2) ?_
  refine Dt.Nt rfl (wantZ hb2) ?_
  refine Dt.No rfl (wantZ hb2) ?_
  refine Dt.Y rfl wantN (Y.pk (c := false) hb2) ?_
  refine Dt.Y rfl wantN Y.mv ?_
  refine Dt.F 14 (fun hb => ?_) (fun hb => ?_)
  ·
   first | exact Bool.false_ne_true ((Eq.symm (by assumption)).trans hb) | exact Bool.false_ne_true (hb.symm.trans (by assumption)) | exact DD hb
  have hb5 := hb
  refine Dt.No rfl (wantZ hb5) ?_
  refine Dt.Nt rfl (wantZ hb5) ?_
  refine Dt.No rfl (wantZ hb5) ?_
  refine Dt.Nt rfl (wantZ hb5) ?_
  refine Dt.No rfl (wantZ hb5) ?_
  refine Dt.No rfl (wantZ hb5) ?_
  refine Dt.Po rfl (wantZ hb5) ?_
  refine Dt.Y rfl wantN (Y.pk (c := false) hb5) ?_
  refine Dt.Y rfl wantN Y.asg ?_
  refine Dt.nil ?_
  obtain rfl := Option.some.inj h
  refine AWp.ret ?_
  exact ⟨.inr rfl, [(2, _)], _, ⟨rfl, rfl⟩, IsPart.at [] [] base0 .nil (E.c .nil)⟩

/-! ### spec_cfSize: function 13 -/
def spec_cfSize.f (a0 : Int) : Option (Bool) := (spec_l1In.f a0 0 4).bind fun t108 => (some t108)
set_option maxRecDepth 100000 in
set_option maxHeartbeats 20000000 in
theorem spec_cfSize.ac (a0 : Int) (r : Bool) (h : spec_cfSize.f a0 = some r) :
  ACalls Tryd.prog 13 [.lit (.int .i64 a0)] [] (fun v H' => v = .lit (.bool r) ∧ H' = []) := by
 refine ACalls.ofP [2] Tryd.func13 rfl (by exact Nat.le_of_ble_eq_true rfl) rfl (by decide) ?_
 simp only [Tryd.ntmps13, env0, spec_cfSize.f] at h ⊢
 refine AWp.seq ?_
 refine AWp.region ?_
 refine L.Y Y.asg ?_
 refine AList.nil ?_
 refine AWp.seq ?_
 refine AWp.region ?_
 refine L.Y Y.mv ?_
 replace h := Option.bind_eq_some_iff.1 h
 obtain ⟨t108, hc1, h⟩ := h
 refine L.C (C.callE (l := true) [] Tryd.func25 (spec_l1In.ac _ _ _ _ hc1) .nil ?_)
 refine L.Y Y.asg ?_
 refine AList.nil ?_
 obtain rfl := Option.some.inj h
 refine AWp.ret ?_
 exact ⟨.inr rfl, [(2, _)], _, ⟨rfl, rfl⟩, IsPart.at [] [] base0 .nil (E.c .nil)⟩

/-! ### spec_cfKinds: function 14 -/
def spec_cfKinds.f (a0 : Int) : Option (Bool) := (spec_l1In.f a0 0 3).bind fun t109 => (some t109)
set_option maxRecDepth 100000 in
set_option maxHeartbeats 20000000 in
theorem spec_cfKinds.ac (a0 : Int) (r : Bool) (h : spec_cfKinds.f a0 = some r) :
  ACalls Tryd.prog 14 [.lit (.int .i64 a0)] [] (fun v H' => v = .lit (.bool r) ∧ H' = []) := by
 refine ACalls.ofP [2] Tryd.func14 rfl (by exact Nat.le_of_ble_eq_true rfl) rfl (by decide) ?_
 simp only [Tryd.ntmps14, env0, spec_cfKinds.f] at h ⊢
 refine AWp.seq ?_
 refine AWp.region ?_
 refine L.Y Y.asg ?_
 refine AList.nil ?_
 refine AWp.seq ?_
 refine AWp.region ?_
 refine L.Y Y.mv ?_
 replace h := Option.bind_eq_some_iff.1 h
 obtain ⟨t109, hc1, h⟩ := h
 refine L.C (C.callE (l := true) [] Tryd.func25 (spec_l1In.ac _ _ _ _ hc1) .nil ?_)
 refine L.Y Y.asg ?_
 refine AList.nil ?_
 obtain rfl := Option.some.inj h
 refine AWp.ret ?_
 exact ⟨.inr rfl, [(2, _)], _, ⟨rfl, rfl⟩, IsPart.at [] [] base0 .nil (E.c .nil)⟩

/-! ### spec_l1Own: function 27 -/
def spec_l1Own.f (l0 : List Int) : Option (List Int) := (some (([] : List Int) : List Int)).bind fun y110 => (if y110.length + l0.length < 17592186044416 then (some (y110 ++ l0)) else (none))
set_option maxRecDepth 100000 in
set_option maxHeartbeats 20000000 in
theorem spec_l1Own.ac (l0 : List Int) (r : List Int) (h : spec_l1Own.f l0 = some r) :
  ACalls Tryd.prog 27 [.row 1 l0.length false (ints .i64 l0)] [] (fun v H' => v = .own 0 r.length ∧ H' = [.sl 3 1 r.length false (ints .i64 r)]) := by
 refine ACalls.ofP [2] Tryd.func27 rfl (by exact Nat.le_of_ble_eq_true rfl) rfl (by decide) ?_
 simp only [Tryd.ntmps27, env0, spec_l1Own.f] at h ⊢
 repeat (first | (rw [iN] at h; obtain ⟨_, h⟩ := h) | (rw [iP] at h; obtain ⟨_, h⟩ := h) | (simp only [bS] at h))
 refine AWp.seq ?_
 refine AWp.region ?_
 refine L.Y Y.asg ?_
 refine AList.nil ?_
 refine AWp.seq ?_
 refine AWp.region ?_
 refine L.M (M.bs Tryd.underlying22 Y3) ?_
 refine L.Y Y.mv ?_
 refine L.S (S.ap (nn' := true) Tryd.underlying22 Y3) ?_
 refine L.Y Y.asg ?_
 refine AList.nil ?_
 obtain rfl := Option.some.inj h
 refine AWp.ret ?_
 exact ⟨.inr rfl, [(2, _)], _, ⟨rfl, rfl⟩, IsPart.at [] [0] base0 (H.c .nil) (E.c .nil)⟩

/-! ### spec_orHas: function 29 -/
def spec_orHas.f (a0 : Int) (a1 : Int) : Option (Bool) := if 0 ≤ a1 then (some ((Int.tmod (shr .i64 a0 a1) 2) == 1)) else (none)
set_option maxRecDepth 100000 in
set_option maxHeartbeats 20000000 in
theorem spec_orHas.ac (a0 : Int) (a1 : Int) (r : Bool) (h : spec_orHas.f a0 a1 = some r) :
  ACalls Tryd.prog 29 [.lit (.int .i64 a0), .lit (.int .i64 a1)] [] (fun v H' => v = .lit (.bool r) ∧ H' = []) := by
 refine ACalls.ofP [4] Tryd.func29 rfl (by exact Nat.le_of_ble_eq_true rfl) rfl (by decide) ?_
 simp only [Tryd.ntmps29, env0, spec_orHas.f] at h ⊢
 repeat (first | (rw [iN] at h; obtain ⟨_, h⟩ := h) | (rw [iP] at h; obtain ⟨_, h⟩ := h) | (simp only [bS] at h))
 refine AWp.seq ?_
 refine AWp.region ?_
 refine L.Y Y.asg ?_
 refine AList.nil ?_
 refine AWp.seq ?_
 refine AWp.region ?_
 refine L.Y Y.mv ?_
 refine L.Y Y.mv ?_
 refine L.Y Y.bin ?_
 refine L.Y Y.bin ?_
 refine L.Y Y.bin ?_
 refine L.Y Y.asg ?_
 refine AList.nil ?_
 obtain rfl := Option.some.inj h
 refine AWp.ret ?_
 exact ⟨.inr rfl, [(4, _)], _, ⟨rfl, rfl⟩, IsPart.at [] [] base0 .nil (E.c .nil)⟩

/-! ### spec_orList: function 41 -/
def spec_orList.l0 : Nat → Int → List Int → Int → Option (List Int)
 | 0, _, _, _ => none
 | k + 1, x0, x3, x4 => if 0 ≤ x4 then (if (shr .i64 x0 x4) > 0 then ((spec_orHas.f x0 x4).bind fun t116 => (if t116 = true then (if x3.length < 17592186044416 then (spec_orList.l0 k x0 (x3 ++ [x4]) (wrap64 (x4 + 1))) else (none)) else (spec_orList.l0 k x0 x3 (wrap64 (x4 + 1))))) else (some x3)) else (none)
def spec_orList.f (k : Nat) (a0 : Int) : Option (List Int) := spec_orList.l0 k a0 ([] : List Int) 0
set_option maxRecDepth 100000 in
set_option maxHeartbeats 20000000 in
theorem spec_orList.ac (k : Nat) (a0 : Int) (r : List Int) (h : spec_orList.f k a0 = some r) :
  ACalls Tryd.prog 41 [.lit (.int .i64 a0)] [] (fun v H' => v = .own 0 r.length ∧ H' = [.sl 3 1 r.length false (ints .i64 r)]) := by
 refine ACalls.ofP [2] Tryd.func41 rfl (by exact Nat.le_of_ble_eq_true rfl) rfl (by decide) ?_
 simp only [Tryd.ntmps41, env0, spec_orList.f] at h ⊢
 refine AWp.seq ?_
 refine AWp.region ?_
 refine L.Y Y.asg ?_
 refine AList.nil ?_
 refine AWp.seq ?_
 refine AWp.region ?_
 refine L.Y Y.asg ?_
 refine AList.nil ?_
 refine AWp.seq ?_
 refine AWp.seq ?_
 refine AWp.region ?_
 refine L.Y Y.asg ?_
 refine AList.nil ?_
 refine AWp.block ?_
 refine AWp.loopI (fun kk e H => kk ≤ k ∧ ∃ (x0 : Int) (x3 : List Int) (x4 : Int), e = [(0, .lit (.int .i64 x0)), (2, .lit (.slice none 0 0)), (3, .own 0 x3.length), (4, .lit (.int .i64 x4))] ∧ H = [.sl 3 1 x3.length false (ints .i64 x3)] ∧ spec_orList.l0 kk x0 x3 x4 = some r) (k := k)
  ⟨_, _, ⟨Nat.le_refl _, _, _, _, rfl, rfl, h⟩, IsPart.at [(3, 1)] [0] base0 (H.c .nil) (E.c (E.c (E.c (E.c .nil))))⟩ ?_
 clear h
 rintro k1 e H ⟨hk2, x0, x3, x4, rfl, rfl, h⟩
 cases k1 with
 | zero => exact absurd h (by simp [spec_orList.l0])
 | succ k1 =>
 simp only [spec_orList.l0] at h
 repeat (first | (rw [iN] at h; obtain ⟨_, h⟩ := h) | (rw [iP] at h; obtain ⟨_, h⟩ := h) | (simp only [bS] at h))
 refine AWp.seq ?_
 refine AWp.seq ?_
 refine AWp.region ?_
 refine L.Y Y.mv ?_
 refine L.Y Y.mv ?_
 refine L.Y Y.bin ?_
 refine L.Y Y.bin ?_
 refine AList.nil ?_
 refine W.cond (fun hb => ?_) (fun hb => ?_)
 ·
  have hb3 := hb
  try simp only [hS, hE, ne_eq] at hb
  first | rw [if_pos hb3] at h | rw [if_neg (Bool.eq_false_iff.1 hb3)] at h | rw [if_pos hb] at h | rw [if_neg hb] at h | (simp only [hb, hT, reduceIte] at h) | skip
  refine AWp.skip ?_
  refine AWp.seq ?_
  refine AWp.block ?_
  refine AWp.seq ?_
  refine AWp.region ?_
  refine L.Y Y.mv ?_
  refine L.Y Y.mv ?_
  replace h := Option.bind_eq_some_iff.1 h
  obtain ⟨t116, hc4, h⟩ := h
  refine L.C (C.callE (l := true) [] Tryd.func29 (spec_orHas.ac _ _ _ hc4) .nil ?_)
  refine AList.nil ?_
  refine W.cond (fun hb => ?_) (fun hb => ?_)
  ·
   have hb5 := hb
   try simp only [hS, hE, ne_eq] at hb
   first | rw [if_pos hb5] at h | rw [if_neg (Bool.eq_false_iff.1 hb5)] at h | rw [if_pos hb] at h | rw [if_neg hb] at h | (simp only [hb, hT, reduceIte] at h) | skip
   repeat (first | (rw [iN] at h; obtain ⟨_, h⟩ := h) | (rw [iP] at h; obtain ⟨_, h⟩ := h) | (simp only [bS] at h))
   refine W.kp [0, 2, 3, 4, 8, 13] ?_
   refine AWp.region ?_
   refine L.Y Y.mv ?_
   refine L.Y Y.mv ?_
   refine L.M (M.bs Tryd.underlying22 Y3) ?_
   refine L.S (S.ap (nn' := false) Tryd.underlying22 Y3) ?_
   refine L.Y Y.asg ?_
   refine AList.nil ?_
   refine W.kp [0, 2, 3, 4, 8, 13] ?_
   refine AWp.region ?_
   refine L.Y Y.mv ?_
   refine L.Y Y.bin ?_
   refine L.Y Y.asg ?_
   refine AList.nil ?_
   exact ⟨k1, by omega, _, _, ⟨by omega, _, _, _, rfl, rfl, h⟩, IsPart.at [] [0] base0 (H.c .nil) (E.c (E.c (E.c (E.c .nil))))⟩
  ·
   have hb5 := hb
   try simp only [hS, hE, ne_eq] at hb
   first | rw [if_pos hb5] at h | rw [if_neg (Bool.eq_false_iff.1 hb5)] at h | rw [if_pos hb] at h | rw [if_neg hb] at h | (simp only [hb, hT, reduceIte] at h) | skip
   refine AWp.skip ?_
   refine W.kp [0, 2, 3, 4, 8, 13] ?_
   refine AWp.region ?_
   refine L.Y Y.mv ?_
   refine L.Y Y.bin ?_
   refine L.Y Y.asg ?_
   refine AList.nil ?_
   exact ⟨k1, by omega, _, _, ⟨by omega, _, _, _, rfl, rfl, h⟩, IsPart.at [] [0] base0 (H.c .nil) (E.c (E.c (E.c (E.c .nil))))⟩
 ·
  have hb3 := hb
  try simp only [hS, hE, ne_eq] at hb
  first | rw [if_pos hb3] at h | rw [if_neg (Bool.eq_false_iff.1 hb3)] at h | rw [if_pos hb] at h | rw [if_neg hb] at h | (simp only [hb, hT, reduceIte] at h) | skip
  refine AWp.exit ?_
  refine AWp.seq ?_
  refine AWp.region ?_
  refine L.Y Y.mv ?_
  refine L.Y Y.asg ?_
  refine AList.nil ?_
  obtain rfl := Option.some.inj h
  refine AWp.ret ?_
  exact ⟨.inr rfl, [(2, _)], _, ⟨rfl, rfl⟩, IsPart.at [] [0] base0 (H.c .nil) (E.c .nil)⟩

/-! ### spec_orGood: function 39 -/
mutual
def spec_orGood.l0 : Nat → List Int → Int → Int → Int → List Int → Option (Bool)
 | 0, _, _, _, _, _ => none
 | k + 1, x11, x12, x13, x121000, x121001 => if x13 < x12 then (if 0 ≤ x13 then (if x13 < (x11.length : Int) then ((spec_orHas.f (rd x11 x13) x13).bind fun t123 => (if t123 = true then (some false) else ((spec_orList.f k (rd x11 x13)).bind fun t124 => (spec_orGood.l1 k (rd x11 x13) x11 x12 x13 t124 (t124.length : Int) 0 x121000 x121001)))) else (none)) else (none)) else (some true)
def spec_orGood.l1 : Nat → Int → List Int → Int → Int → List Int → Int → Int → Int → List Int → Option (Bool)
 | 0, _, _, _, _, _, _, _, _, _ => none
 | k + 1, x4, x11, x12, x13, x22, x23, x24, x121000, x121001 => if x24 < x23 then (if 0 ≤ x24 then (if x24 < (x22.length : Int) then (if 0 ≤ (rd x22 x24) then (if (rd x22 x24) < (x121001.length : Int) then (if (Go.bits .andNot .i64 (rd x121001 (rd x22 x24)) x4) = 0 then (spec_orGood.l1 k x4 x11 x12 x13 x22 x23 (wrap64 (x24 + 1)) x121000 x121001) else (some false)) else (none)) else (none)) else (none)) else (none)) else (spec_orGood.l0 k x11 x12 (wrap64 (x13 + 1)) x121000 x121001)
end
def spec_orGood.f (k : Nat) (a0_0 : Int) (l0_1 : List Int) : Option (Bool) := (spec_orRelation.f k a0_0 l0_1).bind fun t121 => (if t121 = true then (spec_orGood.l0 k l0_1 (l0_1.length : Int) 0 a0_0 l0_1) else (some false))
set_option maxRecDepth 100000 in
set_option maxHeartbeats 20000000 in
theorem spec_orGood.ac (k : Nat) (a0_0 : Int) (l0_1 : List Int) (r : Bool) (h : spec_orGood.f k a0_0 l0_1 = some r) :
  ACalls Tryd.prog 39 [.agg [.lit (.int .i64 a0_0), .row 1 l0_1.length false (ints .i64 l0_1)]] [] (fun v H' => v = .lit (.bool r) ∧ H' = []) := by
 refine ACalls.ofP [2] Tryd.func39 rfl (by exact Nat.le_of_ble_eq_true rfl) rfl (by decide) ?_
 simp only [Tryd.ntmps39, env0, spec_orGood.f] at h ⊢
 refine AWp.seq ?_
 refine AWp.region ?_
 refine L.M M.bx ?_
 refine L.Y Y.asg ?_
 refine AList.nil ?_
 refine AWp.seq ?_
 refine AWp.seq ?_
 refine AWp.region ?_
 refine L.S (S.ldN Tryd.underlying26 Y26) ?_
 replace h := Option.bind_eq_some_iff.1 h
 obtain ⟨t121, hc1, h⟩ := h
 refine L.C (C.callE (l := true) [] Tryd.func12 (spec_orRelation.ac _ _ _ _ hc1) .nil ?_)
 refine L.Y Y.nt ?_
 refine AList.nil ?_
 refine W.cond (fun hb => ?_) (fun hb => ?_)
 ·
  have hb2 := hb
  try simp only [hS, hE, ne_eq] at hb
  first | rw [if_pos hb2] at h | rw [if_neg (Bool.eq_false_iff.1 hb2)] at h | rw [if_pos hb] at h | rw [if_neg hb] at h | (simp only [hb, hT, reduceIte] at h) | skip
  refine AWp.seq ?_
  refine AWp.region ?_
  refine L.Y Y.asg ?_
  refine AList.nil ?_
  obtain rfl := Option.some.inj h
  refine AWp.ret ?_
  exact ⟨.inr rfl, [(2, _)], _, ⟨rfl, rfl⟩, IsPart.at [] [] base0 .nil (E.c .nil)⟩
 ·
  have hb2 := hb
  try simp only [hS, hE, ne_eq] at hb
  first | rw [if_pos hb2] at h | rw [if_neg (Bool.eq_false_iff.1 hb2)] at h | rw [if_pos hb] at h | rw [if_neg hb] at h | (simp only [hb, hT, reduceIte] at h) | skip
  refine AWp.skip ?_
  refine AWp.seq ?_
  refine AWp.seq ?_
  refine AWp.region ?_
  refine L.Y (Y.fa (off := 1) Tryd.underlying26 Y22) ?_
  refine L.S (S.ld Tryd.underlying22) ?_
  refine L.Y (Y.ln Tryd.underlying22) ?_
  refine L.Y Y.mv ?_
  refine AList.nil ?_
  refine AWp.block ?_
  refine AWp.loopI (fun kk e H => kk ≤ k ∧ ∃ (x12 : Int) (x13 : Int) (x121000 : Int), e = [(1, .ptr 0 0), (11, .row 1 l0_1.length false (ints .i64 l0_1)), (12, .lit (.int .i64 x12)), (13, .lit (.int .i64 x13))] ∧ H = [.bx 26 [.lit (.int .i64 x121000), .row 1 l0_1.length false (ints .i64 l0_1)]] ∧ spec_orGood.l0 kk l0_1 x12 x13 x121000 l0_1 = some r) (k := k)
   ⟨_, _, ⟨Nat.le_refl _, _, _, _, rfl, rfl, h⟩, IsPart.at [] [0] base0 (H.c .nil) (E.c (E.c (E.c (E.c .nil))))⟩ ?_
  clear h
  rintro k3 e H ⟨hk4, x12, x13, x121000, rfl, rfl, h⟩
  cases k3 with
  | zero => exact absurd h (by simp [spec_orGood.l0])
  | succ k3 =>
  simp only [spec_orGood.l0] at h
  refine AWp.seq ?_
  refine AWp.region ?_
  refine L.Y Y.bin ?_
  refine AList.nil ?_
  refine AWp.seq ?_
  refine W.cond (fun hb => ?_) (fun hb => ?_)
  ·
   have hb5 := hb
   try simp only [hS, hE, ne_eq] at hb
   first | rw [if_pos hb5] at h | rw [if_neg (Bool.eq_false_iff.1 hb5)] at h | rw [if_pos hb] at h | rw [if_neg hb] at h | (simp only [hb, hT, reduceIte] at h) | skip
   repeat (first | (rw [iN] at h; obtain ⟨_, h⟩ := h) | (rw [iP] at h; obtain ⟨_, h⟩ := h) | (simp only [bS] at h))
   refine AWp.skip ?_
   refine AWp.seq ?_
   refine AWp.block ?_
   refine AWp.seq ?_
   refine AWp.region ?_
   refine L.Y Y.mv ?_
   refine L.Y (Y.ixr Tryd.underlying22 Y3) ?_
   refine L.S (S.ld Tryd.underlying3) ?_
   refine L.Y Y.asg ?_
   refine L.Y Y.asg ?_
   refine AList.nil ?_
   refine AWp.seq ?_
   refine AWp.seq ?_
   refine AWp.region ?_
   refine L.Y Y.mv ?_
   refine L.Y Y.mv ?_
   replace h := Option.bind_eq_some_iff.1 h
   obtain ⟨t123, hc6, h⟩ := h
   refine L.C (C.callE (l := true) [] Tryd.func29 (spec_orHas.ac _ _ _ hc6) .nil ?_)
   refine AList.nil ?_
   refine W.cond (fun hb => ?_) (fun hb => ?_)
   ·
    have hb7 := hb
    try simp only [hS, hE, ne_eq] at hb
    first | rw [if_pos hb7] at h | rw [if_neg (Bool.eq_false_iff.1 hb7)] at h | rw [if_pos hb] at h | rw [if_neg hb] at h | (simp only [hb, hT, reduceIte] at h) | skip
    refine AWp.seq ?_
    refine W.kp [1, 3, 4, 11, 12, 13, 14, 20] ?_
    refine AWp.region ?_
    refine L.Y Y.asg ?_
    refine AList.nil ?_
    obtain rfl := Option.some.inj h
    refine AWp.ret ?_
    exact ⟨.inr rfl, [(2, _)], _, ⟨rfl, rfl⟩, IsPart.at [] [] base0 .nil (E.c .nil)⟩
   ·
    have hb7 := hb
    try simp only [hS, hE, ne_eq] at hb
    first | rw [if_pos hb7] at h | rw [if_neg (Bool.eq_false_iff.1 hb7)] at h | rw [if_pos hb] at h | rw [if_neg hb] at h | (simp only [hb, hT, reduceIte] at h) | skip
    refine AWp.skip ?_
    refine AWp.seq ?_
    refine W.kp [1, 3, 4, 11, 12, 13, 14, 20] ?_
    refine AWp.region ?_
    refine L.Y Y.mv ?_
    replace h := Option.bind_eq_some_iff.1 h
    obtain ⟨t124, hc8, h⟩ := h
    refine L.C (C.callE (l := true) [] Tryd.func41 (spec_orList.ac _ _ _ hc8) .nil ?_)
    refine L.Y (Y.ln Tryd.underlying22) ?_
    refine L.Y Y.mv ?_
    refine AList.nil ?_
    refine AWp.block ?_
    refine AWp.loopI (fun kk e H => kk ≤ k3 ∧ ∃ (x4 : Int) (x12 : Int) (x13 : Int) (x22 : List Int) (x23 : Int) (x24 : Int) (x121000 : Int), e = [(1, .ptr 0 0), (4, .lit (.int .i64 x4)), (11, .row 1 l0_1.length false (ints .i64 l0_1)), (12, .lit (.int .i64 x12)), (13, .lit (.int .i64 x13)), (22, .own 1 x22.length), (23, .lit (.int .i64 x23)), (24, .lit (.int .i64 x24))] ∧ H = [.bx 26 [.lit (.int .i64 x121000), .row 1 l0_1.length false (ints .i64 l0_1)], .sl 3 1 x22.length false (ints .i64 x22)] ∧ spec_orGood.l1 kk x4 l0_1 x12 x13 x22 x23 x24 x121000 l0_1 = some r) (k := k3)
     ⟨_, _, ⟨Nat.le_refl _, _, _, _, _, _, _, _, rfl, rfl, h⟩, IsPart.at [] [0, 1] base0 (H.c (H.c .nil)) (E.c (E.c (E.c (E.c (E.c (E.c (E.c (E.c .nil))))))))⟩ ?_
    clear h
    rintro k9 e H ⟨hk10, x4, x12, x13, x22, x23, x24, x121000, rfl, rfl, h⟩
    cases k9 with
    | zero => exact absurd h (by simp [spec_orGood.l1])
    | succ k9 =>
    simp only [spec_orGood.l1] at h
    refine AWp.seq ?_
    refine AWp.region ?_
    refine L.Y Y.bin ?_
    refine AList.nil ?_
    refine AWp.seq ?_
    refine W.cond (fun hb => ?_) (fun hb => ?_)
    ·
     have hb11 := hb
     try simp only [hS, hE, ne_eq] at hb
     first | rw [if_pos hb11] at h | rw [if_neg (Bool.eq_false_iff.1 hb11)] at h | rw [if_pos hb] at h | rw [if_neg hb] at h | (simp only [hb, hT, reduceIte] at h) | skip
     repeat (first | (rw [iN] at h; obtain ⟨_, h⟩ := h) | (rw [iP] at h; obtain ⟨_, h⟩ := h) | (simp only [bS] at h))
     refine AWp.skip ?_
     refine AWp.seq ?_
     refine AWp.block ?_
     refine AWp.seq ?_
     refine AWp.region ?_
     refine L.Y (Y.ixo Tryd.underlying22 Y3) ?_
     refine L.S (S.ld Tryd.underlying3) ?_
     refine L.Y Y.asg ?_
     refine AList.nil ?_
     refine AWp.seq ?_
     refine AWp.region ?_
     refine L.Y (Y.fa (off := 1) Tryd.underlying26 Y22) ?_
     refine L.S (S.ld Tryd.underlying22) ?_
     refine L.Y Y.mv ?_
     refine L.Y (Y.ixr Tryd.underlying22 Y3) ?_
     refine L.S (S.ld Tryd.underlying3) ?_
     refine L.Y Y.mv ?_
     refine L.Y Y.bin ?_
     refine L.Y Y.bin ?_
     refine AList.nil ?_
     refine W.cond (fun hb => ?_) (fun hb => ?_)
     ·
      have hb12 := hb
      try simp only [hS, hE, ne_eq] at hb
      first | rw [if_pos hb12] at h | rw [if_neg (Bool.eq_false_iff.1 hb12)] at h | rw [if_pos hb] at h | rw [if_neg hb] at h | (simp only [hb, hT, reduceIte] at h) | skip
      refine AWp.seq ?_
      refine W.kp [1, 4, 6, 11, 12, 13, 22, 23, 24, 25, 35] ?_
      refine AWp.region ?_
      refine L.Y Y.asg ?_
      refine AList.nil ?_
      obtain rfl := Option.some.inj h
      refine AWp.ret ?_
      exact ⟨.inr rfl, [(2, _)], _, ⟨rfl, rfl⟩, IsPart.at [] [] base0 .nil (E.c .nil)⟩
     ·
      have hb12 := hb
      try simp only [hS, hE, ne_eq] at hb
      first | rw [if_pos hb12] at h | rw [if_neg (Bool.eq_false_iff.1 hb12)] at h | rw [if_pos hb] at h | rw [if_neg hb] at h | (simp only [hb, hT, reduceIte] at h) | skip
      refine AWp.skip ?_
      refine W.kp [1, 4, 6, 11, 12, 13, 22, 23, 24, 25, 35] ?_
      refine AWp.region ?_
      refine L.Y Y.bin ?_
      refine L.Y Y.mv ?_
      refine AList.nil ?_
      exact ⟨k9, by omega, _, _, ⟨by omega, _, _, _, _, _, _, _, rfl, rfl, h⟩, IsPart.at [] [0, 1] base0 (H.c (H.c .nil)) (E.c (E.c (E.c (E.c (E.c (E.c (E.c (E.c .nil))))))))⟩
    ·
     have hb11 := hb
     try simp only [hS, hE, ne_eq] at hb
     first | rw [if_pos hb11] at h | rw [if_neg (Bool.eq_false_iff.1 hb11)] at h | rw [if_pos hb] at h | rw [if_neg hb] at h | (simp only [hb, hT, reduceIte] at h) | skip
     refine AWp.exit ?_
     refine AWp.region ?_
     refine L.Y Y.bin ?_
     refine L.Y Y.mv ?_
     refine AList.nil ?_
     exact ⟨k9, by omega, _, _, ⟨by omega, _, _, _, rfl, rfl, h⟩, IsPart.at [] [0] base0 (H.c .nil) (E.c (E.c (E.c (E.c .nil))))⟩
  ·
   have hb5 := hb
   try simp only [hS, hE, ne_eq] at hb
   first | rw [if_pos hb5] at h | rw [if_neg (Bool.eq_false_iff.1 hb5)] at h | rw [if_pos hb] at h | rw [if_neg hb] at h | (simp only [hb, hT, reduceIte] at h) | skip
   refine AWp.exit ?_
   refine AWp.seq ?_
   refine AWp.region ?_
   refine L.Y Y.asg ?_
   refine AList.nil ?_
   obtain rfl := Option.some.inj h
   refine AWp.ret ?_
   exact ⟨.inr rfl, [(2, _)], _, ⟨rfl, rfl⟩, IsPart.at [] [] base0 .nil (E.c .nil)⟩

end Go.Proofs.YtdaneldckdjjoaaDoor.PFnExactNearestOf
